/-
  What is known of a datum that came in. No condition.
-/
import Derived.Test.YtneglngdbcefgaaTy
namespace Go.Fn
open Go Go.Tc
instance : Wf GRewrite := ⟨fun t => Wf.wf t.From ∧ Wf.wf t.To⟩
instance : Wf GRule := ⟨fun t => Wf.wf t.Write ∧ Wf.wf t.Move ∧ Wf.wf t.Next⟩
instance : Wf GMachine := ⟨fun t => Wf.wf t.Symbols ∧ Wf.wf t.States ∧ Wf.wf t.Rules⟩
instance : Wf GConfig := ⟨fun t => Wf.wf t.State ∧ Wf.wf t.Left ∧ Wf.wf t.Right⟩

end Go.Fn
