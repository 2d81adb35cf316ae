/-
  What is known of a datum that came in. No condition.
-/
import Derived.Test.YtafjflnnkdbmdaaTy
namespace Go.Fn
open Go Go.Tc
instance : Wf GMultiRule := ⟨fun t => Wf.wf t.State ∧ Wf.wf t.Read ∧ Wf.wf t.Write ∧ Wf.wf t.Move ∧ Wf.wf t.Next⟩
instance : Wf GMulti := ⟨fun t => Wf.wf t.Tapes ∧ Wf.wf t.Symbols ∧ Wf.wf t.States ∧ Wf.wf t.Rules⟩

end Go.Fn
