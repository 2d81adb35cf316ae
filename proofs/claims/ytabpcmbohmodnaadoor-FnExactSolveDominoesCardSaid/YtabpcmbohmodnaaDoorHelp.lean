/-
  The laws' own helpers: copies are copies, a datum is equal to itself, what a size check leaves is small: printed by program. No condition.
-/
import Derived.Test.YtabpcmbohmodnaaDoorFn
import Derived.Test.YtabpcmbohmodnaaDoorPure
import Derived.Test.YtabpcmbohmodnaaDoorWf
namespace Go.Fn
open Go Go.Tc
instance : Cnt GDomino := ⟨fun t => Cnt.cnt t.Top + Cnt.cnt t.Bottom⟩
instance : Bdd GDomino := ⟨fun k t => Bdd.bd k t.Top ∧ Bdd.bd k t.Bottom, fun h k => ⟨Bdd.mono h k.1, Bdd.mono h k.2⟩⟩
instance : Cnt Grest := ⟨fun t => Cnt.cnt t.word + 1 + 1⟩
instance : Bdd Grest := ⟨fun k t => Bdd.bd k t.word, fun h k => Bdd.mono h k⟩
instance : Cnt Gl32Rest := ⟨fun t => Cnt.cnt t.word + 1 + 1⟩
instance : Bdd Gl32Rest := ⟨fun k t => Bdd.bd k t.word, fun h k => Bdd.mono h k⟩
theorem sz_Int64S (xs : (List Int)) (hw : Wf.wf xs) (b : Int) (hb0 : 0 ≤ b) (hb : b ≤ 1048576) : Szd xs b (F_laws_szInt64S xs b) := by
  unfold F_laws_szInt64S
  rcases sz_len hw.1 hb0 hb with h | ⟨h, e, h0, hn⟩
  · rw [h]
    exact szd_fail rfl
  · rw [h, e]
    exact ⟨_, rfl, .inr ⟨h0, by omega, hn, fun x hx => trivial⟩⟩
theorem sz_Domino (x : GDomino) (hw : Wf.wf x) (b : Int) (hb0 : 0 ≤ b) (hb : b ≤ 1048576) : Szd x b (F_laws_szDomino x b) := by
  unfold F_laws_szDomino
  obtain ⟨r0, e0, k0⟩ := sz_Int64S x.Top hw.1 b (by omega) (by omega)
  rw [e0, bnd_some_eq]
  rcases k0 with k0 | ⟨a0, b0, c0⟩
  · rw [decide_eq_true k0]
    exact szd_fail rfl
  rw [decide_eq_false (by omega)]
  obtain ⟨r1, e1, k1⟩ := sz_Int64S x.Bottom hw.2 r0 (by omega) (by omega)
  rw [e1, bnd_some_eq]
  rcases k1 with k1 | ⟨a1, b1, c1⟩
  · rw [decide_eq_true k1]
    exact szd_fail rfl
  rw [decide_eq_false (by omega)]
  exact ⟨_, rfl, .inr ⟨by omega, by omega, ⟨c0, c1⟩⟩⟩
theorem sz_DominoS (xs : (List GDomino)) (hw : Wf.wf xs) (b : Int) (hb0 : 0 ≤ b) (hb : b ≤ 1048576) : Szd xs b (F_laws_szDominoS xs b) := by
  unfold F_laws_szDominoS
  rcases sz_len hw.1 hb0 hb with h | ⟨h, e, h0, hn⟩
  · rw [h]
    exact szd_fail rfl
  · rw [h, e]
    obtain ⟨r, hr, k⟩ := run_sz (body := F_laws_szDominoS_L1 xs) xs hn F_laws_szDomino (fun x hx => sz_Domino x (hw.2 x hx)) (fun i hi l => by simp [F_laws_szDominoS_L1, hi, idx_nat hi]) (fun l => by simp [F_laws_szDominoS_L1]) _ h0 (by omega)
    exact ⟨r, hr, k.imp id fun ⟨k0, k1, k2⟩ => ⟨k0, by omega, k2⟩⟩
theorem to_Int64S (xs : (List Int)) (h : Sml xs) : F_laws_toInt64S xs = some xs := by
  unfold F_laws_toInt64S
  rw [mke_nat h.1, bnd_some_eq, run_copy xs h.1 ?_ ?_ _ (by simp)]
  · rfl
  · intro acc i hi hl
    simp [F_laws_toInt64S_L1, hi, idx_nat hi, idx_nat (show i < acc.length by omega)]
  · intro acc
    simp [F_laws_toInt64S_L1]
theorem to_Domino (x : GDomino) (h : Sml x) : F_laws_toDomino x = some x := by
  unfold F_laws_toDomino
  simp [to_Int64S x.Top h.1, to_Int64S x.Bottom h.2]
theorem to_DominoS (xs : (List GDomino)) (h : Sml xs) : F_laws_toDominoS xs = some xs := by
  unfold F_laws_toDominoS
  rw [mke_nat h.1, bnd_some_eq, run_copy xs h.1 ?_ ?_ _ (by simp)]
  · rfl
  · intro acc i hi hl
    simp [F_laws_toDominoS_L1, hi, idx_nat hi, idx_nat (show i < acc.length by omega), to_Domino xs[i] (h.mem hi)]
  · intro acc
    simp [F_laws_toDominoS_L1]
theorem eq_Int64S (xs : (List Int)) (h : Med xs) : F_laws_eqInt64S xs xs = some true := by
  unfold F_laws_eqInt64S
  rw [decide_eq_false (fun k => k rfl)]
  refine run_same xs.length h.1 ?_ ?_
  · intro i hi
    simp [F_laws_eqInt64S_L1, hi, idx_nat hi]
  · simp [F_laws_eqInt64S_L1]
theorem eq_Domino (x : GDomino) (h : Med x) : F_laws_eqDomino x x = some true := by
  unfold F_laws_eqDomino
  simp [eq_Int64S x.Top h.1, eq_Int64S x.Bottom h.2]
theorem eq_DominoS (xs : (List GDomino)) (h : Med xs) : F_laws_eqDominoS xs xs = some true := by
  unfold F_laws_eqDominoS
  rw [decide_eq_false (fun k => k rfl)]
  refine run_same xs.length h.1 ?_ ?_
  · intro i hi
    simp [F_laws_eqDominoS_L1, hi, idx_nat hi, eq_Domino xs[i] (h.mem hi)]
  · simp [F_laws_eqDominoS_L1]
theorem mark_Int64S (xs : (List Int)) (k : Int) (hn : Med xs) (h0 : 0 ≤ k) (hk : k + (Cnt.cnt xs : Int) ≤ 4611686018427387904) : ∃ ys, F_laws_markInt64S xs k = some (k + (Cnt.cnt xs : Int), ys) ∧ F_laws_heldInt64S ys k = some (k + (Cnt.cnt xs : Int)) := by
  unfold F_laws_markInt64S F_laws_heldInt64S
  refine run_marks (mb := F_laws_markInt64S_L1) (hb := F_laws_heldInt64S_L1) (fun _ => True) ?_ (fun acc k => by simp [F_laws_markInt64S_L1]) (fun ys k => by simp [F_laws_heldInt64S_L1]) xs k hn.1 (fun _ _ => trivial) h0 hk
  intro acc i hi k hp h0 hk
  have hc : (Cnt.cnt acc[i] : Int) = 1 := rfl
  rw [hc] at hk ⊢
  have e0 : w64 (k + 1) = k + 1 := w64_k1 (by omega) (by omega)
  refine ⟨k, ?_, fun ys hi2 hy => ?_⟩
  · (simp [F_laws_markInt64S_L1, hi, idx_nat hi, idx_set hi, e0, ← Int.add_assoc]) <;> omega
  · (simp [F_laws_heldInt64S_L1, hi2, idx_nat hi2, hy, e0, ← Int.add_assoc]) <;> omega
theorem mark_DominoS (xs : (List GDomino)) (k : Int) (hn : Med xs) (h0 : 0 ≤ k) (hk : k + (Cnt.cnt xs : Int) ≤ 4611686018427387904) : ∃ ys, F_laws_markDominoS xs k = some (k + (Cnt.cnt xs : Int), ys) ∧ True := by
  unfold F_laws_markDominoS
  suffices h_ : ∃ ys, bnd (run F_laws_markDominoS_L1 (xs, k, 0)) (Out.elim (fun (s : _ × Int × Int) => some (s.2.1, s.1)) (fun (r : Int × _) => some r)) = some (k + (Cnt.cnt xs : Int), ys) from ⟨h_.choose, h_.choose_spec, trivial⟩
  refine run_marks0 (mb := F_laws_markDominoS_L1) (fun x => Med x) ?_ (fun acc k => by simp [F_laws_markDominoS_L1]) xs k hn.1 (hn.2) h0 hk
  intro acc i hi k hp h0 hk
  have hc : (Cnt.cnt acc[i] : Int) = (Cnt.cnt acc[i].Top : Int) + (Cnt.cnt acc[i].Bottom : Int) := by simp only [Cnt.cnt]; omega
  rw [hc] at hk ⊢
  obtain ⟨t0, e0, g0⟩ := mark_Int64S acc[i].Top (k) hp.1 (by omega) (by omega)
  have n0 : ¬ (k + (Cnt.cnt acc[i].Top : Int) < 0) := by omega
  obtain ⟨t1, e1, g1⟩ := mark_Int64S acc[i].Bottom (k + (Cnt.cnt acc[i].Top : Int)) hp.2 (by omega) (by omega)
  have n1 : ¬ (k + (Cnt.cnt acc[i].Top : Int) + (Cnt.cnt acc[i].Bottom : Int) < 0) := by omega
  refine ⟨⟨t0, t1⟩, ?_⟩
  (simp [F_laws_markDominoS_L1, hi, idx_nat hi, idx_set hi, e0, e1, ← Int.add_assoc]) <;> omega

end Go.Fn
