/-
  The laws' own helpers: copies are copies, a datum is equal to itself, what a size check leaves is small: printed by program. No condition.
-/
import Derived.Test.YtceimgjcikkadaaFn
import Derived.Test.YtceimgjcikkadaaPure
import Derived.Test.YtceimgjcikkadaaWf
namespace Go.Fn
open Go Go.Tc
instance : Cnt GRule := ⟨fun _ => 1 + 1 + 1⟩
instance : Bdd GRule := ⟨fun _ _ => True, fun _ h => h⟩
instance : Cnt GMachine := ⟨fun t => 1 + 1 + Cnt.cnt t.Rules⟩
instance : Bdd GMachine := ⟨fun k t => Bdd.bd k t.Rules, fun h k => Bdd.mono h k⟩
instance : Cnt GConfig := ⟨fun t => 1 + Cnt.cnt t.Left + Cnt.cnt t.Right⟩
instance : Bdd GConfig := ⟨fun k t => Bdd.bd k t.Left ∧ Bdd.bd k t.Right, fun h k => ⟨Bdd.mono h k.1, Bdd.mono h k.2⟩⟩
instance : Cnt GbitPlace := ⟨fun _ => 1 + 1 + 1 + 1⟩
instance : Bdd GbitPlace := ⟨fun _ _ => True, fun _ h => h⟩
instance : Cnt GfoldPlace := ⟨fun _ => 1 + 1 + 1⟩
instance : Bdd GfoldPlace := ⟨fun _ _ => True, fun _ h => h⟩
instance : Cnt Gaction_bitPlace := ⟨fun _ => 1 + 1 + 1 + 1 + 1 + 1⟩
instance : Bdd Gaction_bitPlace := ⟨fun _ _ => True, fun _ h => h⟩
instance : Cnt Gaction_foldPlace := ⟨fun _ => 1 + 1 + 1 + 1 + 1⟩
instance : Bdd Gaction_foldPlace := ⟨fun _ _ => True, fun _ h => h⟩
instance : Cnt GMultiRule := ⟨fun t => 1 + Cnt.cnt t.Read + Cnt.cnt t.Write + Cnt.cnt t.Move + 1⟩
instance : Bdd GMultiRule := ⟨fun k t => Bdd.bd k t.Read ∧ Bdd.bd k t.Write ∧ Bdd.bd k t.Move, fun h k => ⟨Bdd.mono h k.1, Bdd.mono h k.2.1, Bdd.mono h k.2.2⟩⟩
instance : Cnt GMulti := ⟨fun t => 1 + 1 + 1 + Cnt.cnt t.Rules⟩
instance : Bdd GMulti := ⟨fun k t => Bdd.bd k t.Rules, fun h k => Bdd.mono h k⟩
instance : Cnt Gl13Move := ⟨fun t => 1 + 1 + Cnt.cnt t.next⟩
instance : Bdd Gl13Move := ⟨fun k t => Bdd.bd k t.next, fun h k => Bdd.mono h k⟩
theorem sz_RuleS (xs : (List GRule)) (hw : Wf.wf xs) (b : Int) (hb0 : 0 ≤ b) (hb : b ≤ 1048576) : Szd xs b (F_laws_szRuleS xs b) := by
  unfold F_laws_szRuleS
  rcases sz_len hw.1 hb0 hb with h | ⟨h, e, h0, hn⟩
  · rw [h]
    exact szd_fail rfl
  · rw [h, e]
    exact ⟨_, rfl, .inr ⟨h0, by omega, hn, fun x hx => trivial⟩⟩
theorem sz_Machine (x : GMachine) (hw : Wf.wf x) (b : Int) (hb0 : 0 ≤ b) (hb : b ≤ 1048576) : Szd x b (F_laws_szMachine x b) := by
  unfold F_laws_szMachine
  obtain ⟨r0, e0, k0⟩ := sz_RuleS x.Rules hw.2.2 b (by omega) (by omega)
  rw [e0, bnd_some_eq]
  rcases k0 with k0 | ⟨a0, b0, c0⟩
  · rw [decide_eq_true k0]
    exact szd_fail rfl
  rw [decide_eq_false (by omega)]
  exact ⟨_, rfl, .inr ⟨by omega, by omega, c0⟩⟩
theorem to_Rule (x : GRule) (_ : Sml x) : F_laws_toRule x = some x := rfl
theorem to_RuleS (xs : (List GRule)) (h : Sml xs) : F_laws_toRuleS xs = some xs := by
  unfold F_laws_toRuleS
  rw [mke_nat h.1, bnd_some_eq, run_copy xs h.1 ?_ ?_ _ (by simp)]
  · rfl
  · intro acc i hi hl
    simp [F_laws_toRuleS_L1, hi, idx_nat hi, idx_nat (show i < acc.length by omega), to_Rule xs[i] (h.mem hi)]
  · intro acc
    simp [F_laws_toRuleS_L1]
theorem to_Machine (x : GMachine) (h : Sml x) : F_laws_toMachine x = some x := by
  unfold F_laws_toMachine
  simp [to_RuleS x.Rules h]
theorem eq_Rule (x : GRule) (_ : Med x) : F_laws_eqRule x x = some true := by
  unfold F_laws_eqRule
  simp
theorem eq_RuleS (xs : (List GRule)) (h : Med xs) : F_laws_eqRuleS xs xs = some true := by
  unfold F_laws_eqRuleS
  rw [decide_eq_false (fun k => k rfl)]
  refine run_same xs.length h.1 ?_ ?_
  · intro i hi
    simp [F_laws_eqRuleS_L1, hi, idx_nat hi, eq_Rule xs[i] (h.mem hi)]
  · simp [F_laws_eqRuleS_L1]
theorem eq_Machine (x : GMachine) (h : Med x) : F_laws_eqMachine x x = some true := by
  unfold F_laws_eqMachine
  simp [eq_RuleS x.Rules h]
theorem sz_Int64S (xs : (List Int)) (hw : Wf.wf xs) (b : Int) (hb0 : 0 ≤ b) (hb : b ≤ 1048576) : Szd xs b (F_laws_szInt64S xs b) := by
  unfold F_laws_szInt64S
  rcases sz_len hw.1 hb0 hb with h | ⟨h, e, h0, hn⟩
  · rw [h]
    exact szd_fail rfl
  · rw [h, e]
    exact ⟨_, rfl, .inr ⟨h0, by omega, hn, fun x hx => trivial⟩⟩
theorem sz_Config (x : GConfig) (hw : Wf.wf x) (b : Int) (hb0 : 0 ≤ b) (hb : b ≤ 1048576) : Szd x b (F_laws_szConfig x b) := by
  unfold F_laws_szConfig
  obtain ⟨r0, e0, k0⟩ := sz_Int64S x.Left hw.2.1 b (by omega) (by omega)
  rw [e0, bnd_some_eq]
  rcases k0 with k0 | ⟨a0, b0, c0⟩
  · rw [decide_eq_true k0]
    exact szd_fail rfl
  rw [decide_eq_false (by omega)]
  obtain ⟨r1, e1, k1⟩ := sz_Int64S x.Right hw.2.2 r0 (by omega) (by omega)
  rw [e1, bnd_some_eq]
  rcases k1 with k1 | ⟨a1, b1, c1⟩
  · rw [decide_eq_true k1]
    exact szd_fail rfl
  rw [decide_eq_false (by omega)]
  exact ⟨_, rfl, .inr ⟨by omega, by omega, ⟨c0, c1⟩⟩⟩
theorem to_Int64S (xs : (List Int)) (h : Sml xs) : F_laws_toInt64S xs = some xs := by
  unfold F_laws_toInt64S
  rw [mke_nat h.1, bnd_some_eq, run_copy xs h.1 ?_ ?_ _ (by simp)]
  · rfl
  · intro acc i hi hl
    simp [F_laws_toInt64S_L1, hi, idx_nat hi, idx_nat (show i < acc.length by omega)]
  · intro acc
    simp [F_laws_toInt64S_L1]
theorem to_Config (x : GConfig) (h : Sml x) : F_laws_toConfig x = some x := by
  unfold F_laws_toConfig
  simp [to_Int64S x.Left h.1, to_Int64S x.Right h.2]
theorem eq_Int64S (xs : (List Int)) (h : Med xs) : F_laws_eqInt64S xs xs = some true := by
  unfold F_laws_eqInt64S
  rw [decide_eq_false (fun k => k rfl)]
  refine run_same xs.length h.1 ?_ ?_
  · intro i hi
    simp [F_laws_eqInt64S_L1, hi, idx_nat hi]
  · simp [F_laws_eqInt64S_L1]
theorem eq_Config (x : GConfig) (h : Med x) : F_laws_eqConfig x x = some true := by
  unfold F_laws_eqConfig
  simp [eq_Int64S x.Left h.1, eq_Int64S x.Right h.2]
theorem mark_RuleS (xs : (List GRule)) (k : Int) (hn : Med xs) (h0 : 0 ≤ k) (hk : k + (Cnt.cnt xs : Int) ≤ 4611686018427387904) : ∃ ys, F_laws_markRuleS xs k = some (k + (Cnt.cnt xs : Int), ys) ∧ F_laws_heldRuleS ys k = some (k + (Cnt.cnt xs : Int)) := by
  unfold F_laws_markRuleS F_laws_heldRuleS
  refine run_marks (mb := F_laws_markRuleS_L1) (hb := F_laws_heldRuleS_L1) (fun _ => True) ?_ (fun acc k => by simp [F_laws_markRuleS_L1]) (fun ys k => by simp [F_laws_heldRuleS_L1]) xs k hn.1 (fun _ _ => trivial) h0 hk
  intro acc i hi k hp h0 hk
  have hc : (Cnt.cnt acc[i] : Int) = 1 + 1 + 1 := by simp only [Cnt.cnt]; omega
  rw [hc] at hk ⊢
  have e0 : w64 (k + 1) = k + 1 := w64_k1 (by omega) (by omega)
  have e1 : w64 (k + 1 + 1) = k + 1 + 1 := w64_k1 (by omega) (by omega)
  have e2 : w64 (k + 1 + 1 + 1) = k + 1 + 1 + 1 := w64_k1 (by omega) (by omega)
  refine ⟨⟨k, (k + 1), (k + 1 + 1)⟩, ?_, fun ys hi2 hy => ?_⟩
  · (simp [F_laws_markRuleS_L1, hi, idx_nat hi, idx_set hi, e0, e1, e2, ← Int.add_assoc]) <;> omega
  · (simp [F_laws_heldRuleS_L1, hi2, idx_nat hi2, hy, e0, e1, e2, ← Int.add_assoc]) <;> omega
theorem mark_Int64S (xs : (List Int)) (k : Int) (hn : Med xs) (h0 : 0 ≤ k) (hk : k + (Cnt.cnt xs : Int) ≤ 4611686018427387904) : ∃ ys, F_laws_markInt64S xs k = some (k + (Cnt.cnt xs : Int), ys) ∧ F_laws_heldInt64S ys k = some (k + (Cnt.cnt xs : Int)) := by
  unfold F_laws_markInt64S F_laws_heldInt64S
  refine run_marks (mb := F_laws_markInt64S_L1) (hb := F_laws_heldInt64S_L1) (fun _ => True) ?_ (fun acc k => by simp [F_laws_markInt64S_L1]) (fun ys k => by simp [F_laws_heldInt64S_L1]) xs k hn.1 (fun _ _ => trivial) h0 hk
  intro acc i hi k hp h0 hk
  have hc : (Cnt.cnt acc[i] : Int) = 1 := rfl
  rw [hc] at hk ⊢
  have e0 : w64 (k + 1) = k + 1 := w64_k1 (by omega) (by omega)
  refine ⟨k, ?_, fun ys hi2 hy => ?_⟩
  · (simp [F_laws_markInt64S_L1, hi, idx_nat hi, idx_set hi, e0, ← Int.add_assoc]) <;> omega
  · (simp [F_laws_heldInt64S_L1, hi2, idx_nat hi2, hy, e0, ← Int.add_assoc]) <;> omega

end Go.Fn
