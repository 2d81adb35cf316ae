/-
  The laws' own helpers: copies are copies, a datum is equal to itself, what a size check leaves is small: printed by program. No condition.
-/
import Derived.Test.YtlikagofgciflaaFn
import Derived.Test.YtlikagofgciflaaPure
import Derived.Test.YtlikagofgciflaaWf
namespace Go.Fn
open Go Go.Tc
instance : Cnt GExpr := ⟨fun _ => 1 + 1⟩
instance : Bdd GExpr := ⟨fun _ _ => True, fun _ h => h⟩
instance : Cnt GCommand := ⟨fun t => 1 + 1 + 1 + Cnt.cnt t.Value_⟩
instance : Bdd GCommand := ⟨fun k t => Bdd.bd k t.Value_, fun h k => Bdd.mono h k⟩
instance : Cnt Gendings := ⟨fun _ => 1 + 1⟩
instance : Bdd Gendings := ⟨fun _ _ => True, fun _ h => h⟩
end Go.Fn
