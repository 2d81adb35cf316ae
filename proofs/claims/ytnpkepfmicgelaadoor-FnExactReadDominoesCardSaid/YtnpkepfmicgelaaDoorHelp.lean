/-
  The laws' own helpers: copies are copies, a datum is equal to itself, what a size check leaves is small: printed by program. No condition.
-/
import Derived.Test.YtnpkepfmicgelaaDoorFn
import Derived.Test.YtnpkepfmicgelaaDoorPure
import Derived.Test.YtnpkepfmicgelaaDoorWf
namespace Go.Fn
open Go Go.Tc
instance : Cnt GTile := ⟨fun _ => 1 + 1 + 1 + 1⟩
instance : Bdd GTile := ⟨fun _ _ => True, fun _ h => h⟩
instance : Cnt GDomino := ⟨fun t => Cnt.cnt t.Top + Cnt.cnt t.Bottom⟩
instance : Bdd GDomino := ⟨fun k t => Bdd.bd k t.Top ∧ Bdd.bd k t.Bottom, fun h k => ⟨Bdd.mono h k.1, Bdd.mono h k.2⟩⟩
theorem eq_Int64S (xs : (List Int)) (h : Med xs) : F_laws_eqInt64S xs xs = some true := by
  unfold F_laws_eqInt64S
  rw [decide_eq_false (fun k => k rfl)]
  refine run_same xs.length h.1 ?_ ?_
  · intro i hi
    simp [F_laws_eqInt64S_L1, hi, idx_nat hi]
  · simp [F_laws_eqInt64S_L1]
theorem eq_Domino (x : GDomino) (h : Med x) : F_laws_eqDomino x x = some true := by
  unfold F_laws_eqDomino
  simp [eq_Int64S x.Top h.1, eq_Int64S x.Bottom h.2]
theorem eq_DominoS (xs : (List GDomino)) (h : Med xs) : F_laws_eqDominoS xs xs = some true := by
  unfold F_laws_eqDominoS
  rw [decide_eq_false (fun k => k rfl)]
  refine run_same xs.length h.1 ?_ ?_
  · intro i hi
    simp [F_laws_eqDominoS_L1, hi, idx_nat hi, eq_Domino xs[i] (h.mem hi)]
  · simp [F_laws_eqDominoS_L1]
theorem mark_Int64S (xs : (List Int)) (k : Int) (hn : Med xs) (h0 : 0 ≤ k) (hk : k + (Cnt.cnt xs : Int) ≤ 4611686018427387904) : ∃ ys, F_laws_markInt64S xs k = some (k + (Cnt.cnt xs : Int), ys) ∧ F_laws_heldInt64S ys k = some (k + (Cnt.cnt xs : Int)) := by
  unfold F_laws_markInt64S F_laws_heldInt64S
  refine run_marks (mb := F_laws_markInt64S_L1) (hb := F_laws_heldInt64S_L1) (fun _ => True) ?_ (fun acc k => by simp [F_laws_markInt64S_L1]) (fun ys k => by simp [F_laws_heldInt64S_L1]) xs k hn.1 (fun _ _ => trivial) h0 hk
  intro acc i hi k hp h0 hk
  have hc : (Cnt.cnt acc[i] : Int) = 1 := rfl
  rw [hc] at hk ⊢
  have e0 : w64 (k + 1) = k + 1 := w64_k1 (by omega) (by omega)
  refine ⟨k, ?_, fun ys hi2 hy => ?_⟩
  · (simp [F_laws_markInt64S_L1, hi, idx_nat hi, idx_set hi, e0, ← Int.add_assoc]) <;> omega
  · (simp [F_laws_heldInt64S_L1, hi2, idx_nat hi2, hy, e0, ← Int.add_assoc]) <;> omega
theorem mark_DominoS (xs : (List GDomino)) (k : Int) (hn : Med xs) (h0 : 0 ≤ k) (hk : k + (Cnt.cnt xs : Int) ≤ 4611686018427387904) : ∃ ys, F_laws_markDominoS xs k = some (k + (Cnt.cnt xs : Int), ys) ∧ F_laws_heldDominoS ys k = some (k + (Cnt.cnt xs : Int)) := by
  unfold F_laws_markDominoS F_laws_heldDominoS
  refine run_marks (mb := F_laws_markDominoS_L1) (hb := F_laws_heldDominoS_L1) (fun x => Med x) ?_ (fun acc k => by simp [F_laws_markDominoS_L1]) (fun ys k => by simp [F_laws_heldDominoS_L1]) xs k hn.1 (hn.2) h0 hk
  intro acc i hi k hp h0 hk
  have hc : (Cnt.cnt acc[i] : Int) = (Cnt.cnt acc[i].Top : Int) + (Cnt.cnt acc[i].Bottom : Int) := by simp only [Cnt.cnt]; omega
  rw [hc] at hk ⊢
  obtain ⟨t0, e0, g0⟩ := mark_Int64S acc[i].Top (k) hp.1 (by omega) (by omega)
  have n0 : ¬ (k + (Cnt.cnt acc[i].Top : Int) < 0) := by omega
  obtain ⟨t1, e1, g1⟩ := mark_Int64S acc[i].Bottom (k + (Cnt.cnt acc[i].Top : Int)) hp.2 (by omega) (by omega)
  have n1 : ¬ (k + (Cnt.cnt acc[i].Top : Int) + (Cnt.cnt acc[i].Bottom : Int) < 0) := by omega
  refine ⟨⟨t0, t1⟩, ?_, fun ys hi2 hy => ?_⟩
  · (simp [F_laws_markDominoS_L1, hi, idx_nat hi, idx_set hi, e0, e1, ← Int.add_assoc]) <;> omega
  · (simp [F_laws_heldDominoS_L1, hi2, idx_nat hi2, hy, g0, n0, g1, n1, e0, e1, ← Int.add_assoc]) <;> omega

end Go.Fn
