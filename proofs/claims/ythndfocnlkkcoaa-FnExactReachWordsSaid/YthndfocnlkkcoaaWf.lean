/-
  What is known of a datum that came in. No condition.
-/
import Derived.Test.YthndfocnlkkcoaaTy
namespace Go.Fn
open Go Go.Tc
instance : Wf GRewrite := ⟨fun t => Wf.wf t.From ∧ Wf.wf t.To⟩

end Go.Fn
