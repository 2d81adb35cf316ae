/-
  The laws' own helpers: copies are copies, a datum is equal to itself, what a size check leaves is small: printed by program. No condition.
-/
import Derived.Test.YtgpimmdigeobbaaFn
import Derived.Test.YtgpimmdigeobbaaPure
import Derived.Test.YtgpimmdigeobbaaWf
namespace Go.Fn
open Go Go.Tc
instance : Cnt GRule := ⟨fun _ => 1 + 1 + 1⟩
instance : Bdd GRule := ⟨fun _ _ => True, fun _ h => h⟩
instance : Cnt GMachine := ⟨fun t => 1 + 1 + Cnt.cnt t.Rules⟩
instance : Bdd GMachine := ⟨fun k t => Bdd.bd k t.Rules, fun h k => Bdd.mono h k⟩
instance : Cnt GFormula := ⟨fun t => 1 + 1 + 1 + Cnt.cnt t.Walls + Cnt.cnt t.Repeats + Cnt.cnt t.Offsets⟩
instance : Bdd GFormula := ⟨fun k t => Bdd.bd k t.Walls ∧ Bdd.bd k t.Repeats ∧ Bdd.bd k t.Offsets, fun h k => ⟨Bdd.mono h k.1, Bdd.mono h k.2.1, Bdd.mono h k.2.2⟩⟩
instance : Cnt GConfig := ⟨fun t => 1 + Cnt.cnt t.Left + Cnt.cnt t.Right⟩
instance : Bdd GConfig := ⟨fun k t => Bdd.bd k t.Left ∧ Bdd.bd k t.Right, fun h k => ⟨Bdd.mono h k.1, Bdd.mono h k.2⟩⟩
instance : Cnt Grunner := ⟨fun t => 1 + 1 + Cnt.cnt t.m_Rules + 1 + Cnt.cnt t.left + Cnt.cnt t.right⟩
instance : Bdd Grunner := ⟨fun k t => Bdd.bd k t.m_Rules ∧ Bdd.bd k t.left ∧ Bdd.bd k t.right, fun h k => ⟨Bdd.mono h k.1, Bdd.mono h k.2.1, Bdd.mono h k.2.2⟩⟩
end Go.Fn
