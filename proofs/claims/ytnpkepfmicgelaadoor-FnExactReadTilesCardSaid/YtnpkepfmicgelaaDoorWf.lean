/-
  What is known of a datum that came in. No condition.
-/
import Derived.Test.YtnpkepfmicgelaaDoorTy
namespace Go.Fn
open Go Go.Tc
instance : Wf GTile := ⟨fun t => Wf.wf t.Left ∧ Wf.wf t.Bottom ∧ Wf.wf t.Right ∧ Wf.wf t.Top⟩

end Go.Fn
