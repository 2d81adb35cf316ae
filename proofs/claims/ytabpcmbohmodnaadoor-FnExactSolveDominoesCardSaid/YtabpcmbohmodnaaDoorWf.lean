/-
  What is known of a datum that came in. No condition.
-/
import Derived.Test.YtabpcmbohmodnaaDoorTy
namespace Go.Fn
open Go Go.Tc
instance : Wf GDomino := ⟨fun t => Wf.wf t.Top ∧ Wf.wf t.Bottom⟩

end Go.Fn
