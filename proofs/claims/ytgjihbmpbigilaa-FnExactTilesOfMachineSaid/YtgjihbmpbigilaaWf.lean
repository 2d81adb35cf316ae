/-
  What is known of a datum that came in. No condition.
-/
import Derived.Test.YtgjihbmpbigilaaTy
namespace Go.Fn
open Go Go.Tc
instance : Wf GTile := ⟨fun t => Wf.wf t.Left ∧ Wf.wf t.Bottom ∧ Wf.wf t.Right ∧ Wf.wf t.Top⟩
instance : Wf GDomino := ⟨fun t => Wf.wf t.Top ∧ Wf.wf t.Bottom⟩
instance : Wf GRule := ⟨fun t => Wf.wf t.Write ∧ Wf.wf t.Move ∧ Wf.wf t.Next⟩
instance : Wf GMachine := ⟨fun t => Wf.wf t.Symbols ∧ Wf.wf t.States ∧ Wf.wf t.Rules⟩
instance : Wf GRewrite := ⟨fun t => Wf.wf t.From ∧ Wf.wf t.To⟩

end Go.Fn
