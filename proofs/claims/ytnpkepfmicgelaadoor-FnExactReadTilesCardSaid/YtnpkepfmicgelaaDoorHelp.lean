/-
  The laws' own helpers: copies are copies, a datum is equal to itself, what a size check leaves is small: printed by program. No condition.
-/
import Derived.Test.YtnpkepfmicgelaaDoorFn
import Derived.Test.YtnpkepfmicgelaaDoorPure
import Derived.Test.YtnpkepfmicgelaaDoorWf
namespace Go.Fn
open Go Go.Tc
instance : Cnt GTile := ⟨fun _ => 1 + 1 + 1 + 1⟩
instance : Bdd GTile := ⟨fun _ _ => True, fun _ h => h⟩
instance : Cnt GDomino := ⟨fun t => Cnt.cnt t.Top + Cnt.cnt t.Bottom⟩
instance : Bdd GDomino := ⟨fun k t => Bdd.bd k t.Top ∧ Bdd.bd k t.Bottom, fun h k => ⟨Bdd.mono h k.1, Bdd.mono h k.2⟩⟩
theorem eq_Tile (x : GTile) (_ : Med x) : F_laws_eqTile x x = some true := by
  unfold F_laws_eqTile
  simp
theorem eq_TileS (xs : (List GTile)) (h : Med xs) : F_laws_eqTileS xs xs = some true := by
  unfold F_laws_eqTileS
  rw [decide_eq_false (fun k => k rfl)]
  refine run_same xs.length h.1 ?_ ?_
  · intro i hi
    simp [F_laws_eqTileS_L1, hi, idx_nat hi, eq_Tile xs[i] (h.mem hi)]
  · simp [F_laws_eqTileS_L1]
theorem mark_TileS (xs : (List GTile)) (k : Int) (hn : Med xs) (h0 : 0 ≤ k) (hk : k + (Cnt.cnt xs : Int) ≤ 4611686018427387904) : ∃ ys, F_laws_markTileS xs k = some (k + (Cnt.cnt xs : Int), ys) ∧ F_laws_heldTileS ys k = some (k + (Cnt.cnt xs : Int)) := by
  unfold F_laws_markTileS F_laws_heldTileS
  refine run_marks (mb := F_laws_markTileS_L1) (hb := F_laws_heldTileS_L1) (fun _ => True) ?_ (fun acc k => by simp [F_laws_markTileS_L1]) (fun ys k => by simp [F_laws_heldTileS_L1]) xs k hn.1 (fun _ _ => trivial) h0 hk
  intro acc i hi k hp h0 hk
  have hc : (Cnt.cnt acc[i] : Int) = 1 + 1 + 1 + 1 := by simp only [Cnt.cnt]; omega
  rw [hc] at hk ⊢
  have e0 : w64 (k + 1) = k + 1 := w64_k1 (by omega) (by omega)
  have e1 : w64 (k + 1 + 1) = k + 1 + 1 := w64_k1 (by omega) (by omega)
  have e2 : w64 (k + 1 + 1 + 1) = k + 1 + 1 + 1 := w64_k1 (by omega) (by omega)
  have e3 : w64 (k + 1 + 1 + 1 + 1) = k + 1 + 1 + 1 + 1 := w64_k1 (by omega) (by omega)
  refine ⟨⟨k, (k + 1), (k + 1 + 1), (k + 1 + 1 + 1)⟩, ?_, fun ys hi2 hy => ?_⟩
  · (simp [F_laws_markTileS_L1, hi, idx_nat hi, idx_set hi, e0, e1, e2, e3, ← Int.add_assoc]) <;> omega
  · (simp [F_laws_heldTileS_L1, hi2, idx_nat hi2, hy, e0, e1, e2, e3, ← Int.add_assoc]) <;> omega

end Go.Fn
