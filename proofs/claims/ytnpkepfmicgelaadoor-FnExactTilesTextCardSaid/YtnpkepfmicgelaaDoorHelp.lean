/-
  The laws' own helpers: copies are copies, a datum is equal to itself, what a size check leaves is small: printed by program. No condition.
-/
import Derived.Test.YtnpkepfmicgelaaDoorFn
import Derived.Test.YtnpkepfmicgelaaDoorPure
import Derived.Test.YtnpkepfmicgelaaDoorWf
namespace Go.Fn
open Go Go.Tc
instance : Cnt GTile := ⟨fun _ => 1 + 1 + 1 + 1⟩
instance : Bdd GTile := ⟨fun _ _ => True, fun _ h => h⟩
instance : Cnt GDomino := ⟨fun t => Cnt.cnt t.Top + Cnt.cnt t.Bottom⟩
instance : Bdd GDomino := ⟨fun k t => Bdd.bd k t.Top ∧ Bdd.bd k t.Bottom, fun h k => ⟨Bdd.mono h k.1, Bdd.mono h k.2⟩⟩
theorem sz_TileS (xs : (List GTile)) (hw : Wf.wf xs) (b : Int) (hb0 : 0 ≤ b) (hb : b ≤ 1048576) : Szd xs b (F_laws_szTileS xs b) := by
  unfold F_laws_szTileS
  rcases sz_len hw.1 hb0 hb with h | ⟨h, e, h0, hn⟩
  · rw [h]
    exact szd_fail rfl
  · rw [h, e]
    exact ⟨_, rfl, .inr ⟨h0, by omega, hn, fun x hx => trivial⟩⟩
theorem to_Tile (x : GTile) (_ : Sml x) : F_laws_toTile x = some x := rfl
theorem to_TileS (xs : (List GTile)) (h : Sml xs) : F_laws_toTileS xs = some xs := by
  unfold F_laws_toTileS
  rw [mke_nat h.1, bnd_some_eq, run_copy xs h.1 ?_ ?_ _ (by simp)]
  · rfl
  · intro acc i hi hl
    simp [F_laws_toTileS_L1, hi, idx_nat hi, idx_nat (show i < acc.length by omega), to_Tile xs[i] (h.mem hi)]
  · intro acc
    simp [F_laws_toTileS_L1]
theorem eq_Tile (x : GTile) (_ : Med x) : F_laws_eqTile x x = some true := by
  unfold F_laws_eqTile
  simp
theorem eq_TileS (xs : (List GTile)) (h : Med xs) : F_laws_eqTileS xs xs = some true := by
  unfold F_laws_eqTileS
  rw [decide_eq_false (fun k => k rfl)]
  refine run_same xs.length h.1 ?_ ?_
  · intro i hi
    simp [F_laws_eqTileS_L1, hi, idx_nat hi, eq_Tile xs[i] (h.mem hi)]
  · simp [F_laws_eqTileS_L1]

end Go.Fn
