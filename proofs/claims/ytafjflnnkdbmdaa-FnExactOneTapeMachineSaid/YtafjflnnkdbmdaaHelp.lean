/-
  The laws' own helpers: copies are copies, a datum is equal to itself, what a size check leaves is small: printed by program. No condition.
-/
import Derived.Test.YtafjflnnkdbmdaaFn
import Derived.Test.YtafjflnnkdbmdaaPure
import Derived.Test.YtafjflnnkdbmdaaWf
namespace Go.Fn
open Go Go.Tc
instance : Cnt GRule := ⟨fun _ => 1 + 1 + 1⟩
instance : Bdd GRule := ⟨fun _ _ => True, fun _ h => h⟩
instance : Cnt GMachine := ⟨fun t => 1 + 1 + Cnt.cnt t.Rules⟩
instance : Bdd GMachine := ⟨fun k t => Bdd.bd k t.Rules, fun h k => Bdd.mono h k⟩
instance : Cnt GMultiRule := ⟨fun t => 1 + Cnt.cnt t.Read + Cnt.cnt t.Write + Cnt.cnt t.Move + 1⟩
instance : Bdd GMultiRule := ⟨fun k t => Bdd.bd k t.Read ∧ Bdd.bd k t.Write ∧ Bdd.bd k t.Move, fun h k => ⟨Bdd.mono h k.1, Bdd.mono h k.2.1, Bdd.mono h k.2.2⟩⟩
instance : Cnt GMulti := ⟨fun t => 1 + 1 + 1 + Cnt.cnt t.Rules⟩
instance : Bdd GMulti := ⟨fun k t => Bdd.bd k t.Rules, fun h k => Bdd.mono h k⟩
instance : Cnt GmultiPlace := ⟨fun _ => 1 + 1 + 1 + 1 + 1 + 1 + 1 + 1⟩
instance : Bdd GmultiPlace := ⟨fun _ _ => True, fun _ h => h⟩
instance : Cnt Greading := ⟨fun _ => 1 + 1 + 1 + 1⟩
instance : Bdd Greading := ⟨fun _ _ => True, fun _ h => h⟩
instance : Cnt Gaction_multiPlace := ⟨fun _ => 1 + 1 + 1 + 1 + 1 + 1 + 1 + 1 + 1 + 1⟩
instance : Bdd Gaction_multiPlace := ⟨fun _ _ => True, fun _ h => h⟩
instance : Cnt Gl13Move := ⟨fun t => 1 + 1 + Cnt.cnt t.next⟩
instance : Bdd Gl13Move := ⟨fun k t => Bdd.bd k t.next, fun h k => Bdd.mono h k⟩
theorem sz_Int64S (xs : (List Int)) (hw : Wf.wf xs) (b : Int) (hb0 : 0 ≤ b) (hb : b ≤ 1048576) : Szd xs b (F_laws_szInt64S xs b) := by
  unfold F_laws_szInt64S
  rcases sz_len hw.1 hb0 hb with h | ⟨h, e, h0, hn⟩
  · rw [h]
    exact szd_fail rfl
  · rw [h, e]
    exact ⟨_, rfl, .inr ⟨h0, by omega, hn, fun x hx => trivial⟩⟩
theorem sz_MultiRule (x : GMultiRule) (hw : Wf.wf x) (b : Int) (hb0 : 0 ≤ b) (hb : b ≤ 1048576) : Szd x b (F_laws_szMultiRule x b) := by
  unfold F_laws_szMultiRule
  obtain ⟨r0, e0, k0⟩ := sz_Int64S x.Read hw.2.1 b (by omega) (by omega)
  rw [e0, bnd_some_eq]
  rcases k0 with k0 | ⟨a0, b0, c0⟩
  · rw [decide_eq_true k0]
    exact szd_fail rfl
  rw [decide_eq_false (by omega)]
  obtain ⟨r1, e1, k1⟩ := sz_Int64S x.Write hw.2.2.1 r0 (by omega) (by omega)
  rw [e1, bnd_some_eq]
  rcases k1 with k1 | ⟨a1, b1, c1⟩
  · rw [decide_eq_true k1]
    exact szd_fail rfl
  rw [decide_eq_false (by omega)]
  obtain ⟨r2, e2, k2⟩ := sz_Int64S x.Move hw.2.2.2.1 r1 (by omega) (by omega)
  rw [e2, bnd_some_eq]
  rcases k2 with k2 | ⟨a2, b2, c2⟩
  · rw [decide_eq_true k2]
    exact szd_fail rfl
  rw [decide_eq_false (by omega)]
  exact ⟨_, rfl, .inr ⟨by omega, by omega, ⟨c0, c1, c2⟩⟩⟩
theorem sz_MultiRuleS (xs : (List GMultiRule)) (hw : Wf.wf xs) (b : Int) (hb0 : 0 ≤ b) (hb : b ≤ 1048576) : Szd xs b (F_laws_szMultiRuleS xs b) := by
  unfold F_laws_szMultiRuleS
  rcases sz_len hw.1 hb0 hb with h | ⟨h, e, h0, hn⟩
  · rw [h]
    exact szd_fail rfl
  · rw [h, e]
    obtain ⟨r, hr, k⟩ := run_sz (body := F_laws_szMultiRuleS_L1 xs) xs hn F_laws_szMultiRule (fun x hx => sz_MultiRule x (hw.2 x hx)) (fun i hi l => by simp [F_laws_szMultiRuleS_L1, hi, idx_nat hi]) (fun l => by simp [F_laws_szMultiRuleS_L1]) _ h0 (by omega)
    exact ⟨r, hr, k.imp id fun ⟨k0, k1, k2⟩ => ⟨k0, by omega, k2⟩⟩
theorem sz_Multi (x : GMulti) (hw : Wf.wf x) (b : Int) (hb0 : 0 ≤ b) (hb : b ≤ 1048576) : Szd x b (F_laws_szMulti x b) := by
  unfold F_laws_szMulti
  obtain ⟨r0, e0, k0⟩ := sz_MultiRuleS x.Rules hw.2.2.2 b (by omega) (by omega)
  rw [e0, bnd_some_eq]
  rcases k0 with k0 | ⟨a0, b0, c0⟩
  · rw [decide_eq_true k0]
    exact szd_fail rfl
  rw [decide_eq_false (by omega)]
  exact ⟨_, rfl, .inr ⟨by omega, by omega, c0⟩⟩
theorem to_Int64S (xs : (List Int)) (h : Sml xs) : F_laws_toInt64S xs = some xs := by
  unfold F_laws_toInt64S
  rw [mke_nat h.1, bnd_some_eq, run_copy xs h.1 ?_ ?_ _ (by simp)]
  · rfl
  · intro acc i hi hl
    simp [F_laws_toInt64S_L1, hi, idx_nat hi, idx_nat (show i < acc.length by omega)]
  · intro acc
    simp [F_laws_toInt64S_L1]
theorem to_MultiRule (x : GMultiRule) (h : Sml x) : F_laws_toMultiRule x = some x := by
  unfold F_laws_toMultiRule
  simp [to_Int64S x.Read h.1, to_Int64S x.Write h.2.1, to_Int64S x.Move h.2.2]
theorem to_MultiRuleS (xs : (List GMultiRule)) (h : Sml xs) : F_laws_toMultiRuleS xs = some xs := by
  unfold F_laws_toMultiRuleS
  rw [mke_nat h.1, bnd_some_eq, run_copy xs h.1 ?_ ?_ _ (by simp)]
  · rfl
  · intro acc i hi hl
    simp [F_laws_toMultiRuleS_L1, hi, idx_nat hi, idx_nat (show i < acc.length by omega), to_MultiRule xs[i] (h.mem hi)]
  · intro acc
    simp [F_laws_toMultiRuleS_L1]
theorem to_Multi (x : GMulti) (h : Sml x) : F_laws_toMulti x = some x := by
  unfold F_laws_toMulti
  simp [to_MultiRuleS x.Rules h]
theorem eq_Rule (x : GRule) (_ : Med x) : F_laws_eqRule x x = some true := by
  unfold F_laws_eqRule
  simp
theorem eq_RuleS (xs : (List GRule)) (h : Med xs) : F_laws_eqRuleS xs xs = some true := by
  unfold F_laws_eqRuleS
  rw [decide_eq_false (fun k => k rfl)]
  refine run_same xs.length h.1 ?_ ?_
  · intro i hi
    simp [F_laws_eqRuleS_L1, hi, idx_nat hi, eq_Rule xs[i] (h.mem hi)]
  · simp [F_laws_eqRuleS_L1]
theorem eq_Machine (x : GMachine) (h : Med x) : F_laws_eqMachine x x = some true := by
  unfold F_laws_eqMachine
  simp [eq_RuleS x.Rules h]
theorem eq_Int64S (xs : (List Int)) (h : Med xs) : F_laws_eqInt64S xs xs = some true := by
  unfold F_laws_eqInt64S
  rw [decide_eq_false (fun k => k rfl)]
  refine run_same xs.length h.1 ?_ ?_
  · intro i hi
    simp [F_laws_eqInt64S_L1, hi, idx_nat hi]
  · simp [F_laws_eqInt64S_L1]
theorem eq_MultiRule (x : GMultiRule) (h : Med x) : F_laws_eqMultiRule x x = some true := by
  unfold F_laws_eqMultiRule
  simp [eq_Int64S x.Read h.1, eq_Int64S x.Write h.2.1, eq_Int64S x.Move h.2.2]
theorem eq_MultiRuleS (xs : (List GMultiRule)) (h : Med xs) : F_laws_eqMultiRuleS xs xs = some true := by
  unfold F_laws_eqMultiRuleS
  rw [decide_eq_false (fun k => k rfl)]
  refine run_same xs.length h.1 ?_ ?_
  · intro i hi
    simp [F_laws_eqMultiRuleS_L1, hi, idx_nat hi, eq_MultiRule xs[i] (h.mem hi)]
  · simp [F_laws_eqMultiRuleS_L1]
theorem eq_Multi (x : GMulti) (h : Med x) : F_laws_eqMulti x x = some true := by
  unfold F_laws_eqMulti
  simp [eq_MultiRuleS x.Rules h]
theorem mark_Int64S (xs : (List Int)) (k : Int) (hn : Med xs) (h0 : 0 ≤ k) (hk : k + (Cnt.cnt xs : Int) ≤ 4611686018427387904) : ∃ ys, F_laws_markInt64S xs k = some (k + (Cnt.cnt xs : Int), ys) ∧ True := by
  unfold F_laws_markInt64S
  suffices h_ : ∃ ys, bnd (run F_laws_markInt64S_L1 (xs, k, 0)) (Out.elim (fun (s : _ × Int × Int) => some (s.2.1, s.1)) (fun (r : Int × _) => some r)) = some (k + (Cnt.cnt xs : Int), ys) from ⟨h_.choose, h_.choose_spec, trivial⟩
  refine run_marks0 (mb := F_laws_markInt64S_L1) (fun _ => True) ?_ (fun acc k => by simp [F_laws_markInt64S_L1]) xs k hn.1 (fun _ _ => trivial) h0 hk
  intro acc i hi k hp h0 hk
  have hc : (Cnt.cnt acc[i] : Int) = 1 := rfl
  rw [hc] at hk ⊢
  have e0 : w64 (k + 1) = k + 1 := w64_k1 (by omega) (by omega)
  refine ⟨k, ?_⟩
  (simp [F_laws_markInt64S_L1, hi, idx_nat hi, idx_set hi, e0, ← Int.add_assoc]) <;> omega
theorem mark_MultiRuleS (xs : (List GMultiRule)) (k : Int) (hn : Med xs) (h0 : 0 ≤ k) (hk : k + (Cnt.cnt xs : Int) ≤ 4611686018427387904) : ∃ ys, F_laws_markMultiRuleS xs k = some (k + (Cnt.cnt xs : Int), ys) ∧ True := by
  unfold F_laws_markMultiRuleS
  suffices h_ : ∃ ys, bnd (run F_laws_markMultiRuleS_L1 (xs, k, 0)) (Out.elim (fun (s : _ × Int × Int) => some (s.2.1, s.1)) (fun (r : Int × _) => some r)) = some (k + (Cnt.cnt xs : Int), ys) from ⟨h_.choose, h_.choose_spec, trivial⟩
  refine run_marks0 (mb := F_laws_markMultiRuleS_L1) (fun x => Med x) ?_ (fun acc k => by simp [F_laws_markMultiRuleS_L1]) xs k hn.1 (hn.2) h0 hk
  intro acc i hi k hp h0 hk
  have hc : (Cnt.cnt acc[i] : Int) = 1 + (Cnt.cnt acc[i].Read : Int) + (Cnt.cnt acc[i].Write : Int) + (Cnt.cnt acc[i].Move : Int) + 1 := by simp only [Cnt.cnt]; omega
  rw [hc] at hk ⊢
  have e0 : w64 (k + 1) = k + 1 := w64_k1 (by omega) (by omega)
  obtain ⟨t1, e1, g1⟩ := mark_Int64S acc[i].Read (k + 1) hp.1 (by omega) (by omega)
  have n1 : ¬ (k + 1 + (Cnt.cnt acc[i].Read : Int) < 0) := by omega
  obtain ⟨t2, e2, g2⟩ := mark_Int64S acc[i].Write (k + 1 + (Cnt.cnt acc[i].Read : Int)) hp.2.1 (by omega) (by omega)
  have n2 : ¬ (k + 1 + (Cnt.cnt acc[i].Read : Int) + (Cnt.cnt acc[i].Write : Int) < 0) := by omega
  obtain ⟨t3, e3, g3⟩ := mark_Int64S acc[i].Move (k + 1 + (Cnt.cnt acc[i].Read : Int) + (Cnt.cnt acc[i].Write : Int)) hp.2.2 (by omega) (by omega)
  have n3 : ¬ (k + 1 + (Cnt.cnt acc[i].Read : Int) + (Cnt.cnt acc[i].Write : Int) + (Cnt.cnt acc[i].Move : Int) < 0) := by omega
  have e4 : w64 (k + 1 + (Cnt.cnt acc[i].Read : Int) + (Cnt.cnt acc[i].Write : Int) + (Cnt.cnt acc[i].Move : Int) + 1) = k + 1 + (Cnt.cnt acc[i].Read : Int) + (Cnt.cnt acc[i].Write : Int) + (Cnt.cnt acc[i].Move : Int) + 1 := w64_k1 (by omega) (by omega)
  refine ⟨⟨k, t1, t2, t3, (k + 1 + (Cnt.cnt acc[i].Read : Int) + (Cnt.cnt acc[i].Write : Int) + (Cnt.cnt acc[i].Move : Int))⟩, ?_⟩
  (simp [F_laws_markMultiRuleS_L1, hi, idx_nat hi, idx_set hi, e0, e1, e2, e3, e4, ← Int.add_assoc]) <;> omega
theorem mark_RuleS (xs : (List GRule)) (k : Int) (hn : Med xs) (h0 : 0 ≤ k) (hk : k + (Cnt.cnt xs : Int) ≤ 4611686018427387904) : ∃ ys, F_laws_markRuleS xs k = some (k + (Cnt.cnt xs : Int), ys) ∧ F_laws_heldRuleS ys k = some (k + (Cnt.cnt xs : Int)) := by
  unfold F_laws_markRuleS F_laws_heldRuleS
  refine run_marks (mb := F_laws_markRuleS_L1) (hb := F_laws_heldRuleS_L1) (fun _ => True) ?_ (fun acc k => by simp [F_laws_markRuleS_L1]) (fun ys k => by simp [F_laws_heldRuleS_L1]) xs k hn.1 (fun _ _ => trivial) h0 hk
  intro acc i hi k hp h0 hk
  have hc : (Cnt.cnt acc[i] : Int) = 1 + 1 + 1 := by simp only [Cnt.cnt]; omega
  rw [hc] at hk ⊢
  have e0 : w64 (k + 1) = k + 1 := w64_k1 (by omega) (by omega)
  have e1 : w64 (k + 1 + 1) = k + 1 + 1 := w64_k1 (by omega) (by omega)
  have e2 : w64 (k + 1 + 1 + 1) = k + 1 + 1 + 1 := w64_k1 (by omega) (by omega)
  refine ⟨⟨k, (k + 1), (k + 1 + 1)⟩, ?_, fun ys hi2 hy => ?_⟩
  · (simp [F_laws_markRuleS_L1, hi, idx_nat hi, idx_set hi, e0, e1, e2, ← Int.add_assoc]) <;> omega
  · (simp [F_laws_heldRuleS_L1, hi2, idx_nat hi2, hy, e0, e1, e2, ← Int.add_assoc]) <;> omega

end Go.Fn
