/-
  The laws' own helpers: copies are copies, a datum is equal to itself, what a size check leaves is small: printed by program. No condition.
-/
import Derived.Test.YtneglngdbcefgaaFn
import Derived.Test.YtneglngdbcefgaaPure
import Derived.Test.YtneglngdbcefgaaWf
namespace Go.Fn
open Go Go.Tc
instance : Cnt GRule := ⟨fun _ => 1 + 1 + 1⟩
instance : Bdd GRule := ⟨fun _ _ => True, fun _ h => h⟩
instance : Cnt GMachine := ⟨fun t => 1 + 1 + Cnt.cnt t.Rules⟩
instance : Bdd GMachine := ⟨fun k t => Bdd.bd k t.Rules, fun h k => Bdd.mono h k⟩
instance : Cnt GConfig := ⟨fun t => 1 + Cnt.cnt t.Left + Cnt.cnt t.Right⟩
instance : Bdd GConfig := ⟨fun k t => Bdd.bd k t.Left ∧ Bdd.bd k t.Right, fun h k => ⟨Bdd.mono h k.1, Bdd.mono h k.2⟩⟩
instance : Cnt GRewrite := ⟨fun t => Cnt.cnt t.From + Cnt.cnt t.To⟩
instance : Bdd GRewrite := ⟨fun k t => Bdd.bd k t.From ∧ Bdd.bd k t.To, fun h k => ⟨Bdd.mono h k.1, Bdd.mono h k.2⟩⟩
instance : Cnt Gmove := ⟨fun t => 1 + 1 + Cnt.cnt t.word⟩
instance : Bdd Gmove := ⟨fun k t => Bdd.bd k t.word, fun h k => Bdd.mono h k⟩
instance : Cnt Gfound := ⟨fun t => 1 + 1 + Cnt.cnt t.move_word + 1⟩
instance : Bdd Gfound := ⟨fun k t => Bdd.bd k t.move_word, fun h k => Bdd.mono h k⟩
instance : Cnt Galphabet := ⟨fun _ => 1 + 1⟩
instance : Bdd Galphabet := ⟨fun _ _ => True, fun _ h => h⟩
instance : Cnt Gl10Search := ⟨fun t => Cnt.cnt t.words + Cnt.cnt t.before + Cnt.cnt t.steps⟩
instance : Bdd Gl10Search := ⟨fun k t => Bdd.bd k t.words ∧ Bdd.bd k t.before ∧ Bdd.bd k t.steps, fun h k => ⟨Bdd.mono h k.1, Bdd.mono h k.2.1, Bdd.mono h k.2.2⟩⟩
theorem to_Int64S (xs : (List Int)) (h : Sml xs) : F_laws_toInt64S xs = some xs := by
  unfold F_laws_toInt64S
  rw [mke_nat h.1, bnd_some_eq, run_copy xs h.1 ?_ ?_ _ (by simp)]
  · rfl
  · intro acc i hi hl
    simp [F_laws_toInt64S_L1, hi, idx_nat hi, idx_nat (show i < acc.length by omega)]
  · intro acc
    simp [F_laws_toInt64S_L1]
theorem eq_Int64S (xs : (List Int)) (h : Med xs) : F_laws_eqInt64S xs xs = some true := by
  unfold F_laws_eqInt64S
  rw [decide_eq_false (fun k => k rfl)]
  refine run_same xs.length h.1 ?_ ?_
  · intro i hi
    simp [F_laws_eqInt64S_L1, hi, idx_nat hi]
  · simp [F_laws_eqInt64S_L1]
theorem eq_Int64SS (xs : (List (List Int))) (h : Med xs) : F_laws_eqInt64SS xs xs = some true := by
  unfold F_laws_eqInt64SS
  rw [decide_eq_false (fun k => k rfl)]
  refine run_same xs.length h.1 ?_ ?_
  · intro i hi
    simp [F_laws_eqInt64SS_L1, hi, idx_nat hi, eq_Int64S xs[i] (h.mem hi)]
  · simp [F_laws_eqInt64SS_L1]
theorem mark_Int64S (xs : (List Int)) (k : Int) (hn : Med xs) (h0 : 0 ≤ k) (hk : k + (Cnt.cnt xs : Int) ≤ 4611686018427387904) : ∃ ys, F_laws_markInt64S xs k = some (k + (Cnt.cnt xs : Int), ys) ∧ F_laws_heldInt64S ys k = some (k + (Cnt.cnt xs : Int)) := by
  unfold F_laws_markInt64S F_laws_heldInt64S
  refine run_marks (mb := F_laws_markInt64S_L1) (hb := F_laws_heldInt64S_L1) (fun _ => True) ?_ (fun acc k => by simp [F_laws_markInt64S_L1]) (fun ys k => by simp [F_laws_heldInt64S_L1]) xs k hn.1 (fun _ _ => trivial) h0 hk
  intro acc i hi k hp h0 hk
  have hc : (Cnt.cnt acc[i] : Int) = 1 := rfl
  rw [hc] at hk ⊢
  have e0 : w64 (k + 1) = k + 1 := w64_k1 (by omega) (by omega)
  refine ⟨k, ?_, fun ys hi2 hy => ?_⟩
  · (simp [F_laws_markInt64S_L1, hi, idx_nat hi, idx_set hi, e0, ← Int.add_assoc]) <;> omega
  · (simp [F_laws_heldInt64S_L1, hi2, idx_nat hi2, hy, e0, ← Int.add_assoc]) <;> omega
theorem mark_Int64SS (xs : (List (List Int))) (k : Int) (hn : Med xs) (h0 : 0 ≤ k) (hk : k + (Cnt.cnt xs : Int) ≤ 4611686018427387904) : ∃ ys, F_laws_markInt64SS xs k = some (k + (Cnt.cnt xs : Int), ys) ∧ F_laws_heldInt64SS ys k = some (k + (Cnt.cnt xs : Int)) := by
  unfold F_laws_markInt64SS F_laws_heldInt64SS
  refine run_marks (mb := F_laws_markInt64SS_L1) (hb := F_laws_heldInt64SS_L1) (fun x => Med x) ?_ (fun acc k => by simp [F_laws_markInt64SS_L1]) (fun ys k => by simp [F_laws_heldInt64SS_L1]) xs k hn.1 (hn.2) h0 hk
  intro acc i hi k hp h0 hk
  obtain ⟨t0, e0, g0⟩ := mark_Int64S acc[i] (k) hp (by omega) (by omega)
  have n0 : ¬ (k + (Cnt.cnt acc[i] : Int) < 0) := by omega
  refine ⟨t0, ?_, fun ys hi2 hy => ?_⟩
  · (simp [F_laws_markInt64SS_L1, hi, idx_nat hi, idx_set hi, e0, ← Int.add_assoc]) <;> omega
  · (simp [F_laws_heldInt64SS_L1, hi2, idx_nat hi2, hy, g0, n0, e0, ← Int.add_assoc]) <;> omega
theorem sz_RuleS (xs : (List GRule)) (hw : Wf.wf xs) (b : Int) (hb0 : 0 ≤ b) (hb : b ≤ 1048576) : Szd xs b (F_laws_szRuleS xs b) := by
  unfold F_laws_szRuleS
  rcases sz_len hw.1 hb0 hb with h | ⟨h, e, h0, hn⟩
  · rw [h]
    exact szd_fail rfl
  · rw [h, e]
    exact ⟨_, rfl, .inr ⟨h0, by omega, hn, fun x hx => trivial⟩⟩
theorem sz_Machine (x : GMachine) (hw : Wf.wf x) (b : Int) (hb0 : 0 ≤ b) (hb : b ≤ 1048576) : Szd x b (F_laws_szMachine x b) := by
  unfold F_laws_szMachine
  obtain ⟨r0, e0, k0⟩ := sz_RuleS x.Rules hw.2.2 b (by omega) (by omega)
  rw [e0, bnd_some_eq]
  rcases k0 with k0 | ⟨a0, b0, c0⟩
  · rw [decide_eq_true k0]
    exact szd_fail rfl
  rw [decide_eq_false (by omega)]
  exact ⟨_, rfl, .inr ⟨by omega, by omega, c0⟩⟩
theorem sz_Int64S (xs : (List Int)) (hw : Wf.wf xs) (b : Int) (hb0 : 0 ≤ b) (hb : b ≤ 1048576) : Szd xs b (F_laws_szInt64S xs b) := by
  unfold F_laws_szInt64S
  rcases sz_len hw.1 hb0 hb with h | ⟨h, e, h0, hn⟩
  · rw [h]
    exact szd_fail rfl
  · rw [h, e]
    exact ⟨_, rfl, .inr ⟨h0, by omega, hn, fun x hx => trivial⟩⟩
theorem sz_Config (x : GConfig) (hw : Wf.wf x) (b : Int) (hb0 : 0 ≤ b) (hb : b ≤ 1048576) : Szd x b (F_laws_szConfig x b) := by
  unfold F_laws_szConfig
  obtain ⟨r0, e0, k0⟩ := sz_Int64S x.Left hw.2.1 b (by omega) (by omega)
  rw [e0, bnd_some_eq]
  rcases k0 with k0 | ⟨a0, b0, c0⟩
  · rw [decide_eq_true k0]
    exact szd_fail rfl
  rw [decide_eq_false (by omega)]
  obtain ⟨r1, e1, k1⟩ := sz_Int64S x.Right hw.2.2 r0 (by omega) (by omega)
  rw [e1, bnd_some_eq]
  rcases k1 with k1 | ⟨a1, b1, c1⟩
  · rw [decide_eq_true k1]
    exact szd_fail rfl
  rw [decide_eq_false (by omega)]
  exact ⟨_, rfl, .inr ⟨by omega, by omega, ⟨c0, c1⟩⟩⟩
theorem to_Rule (x : GRule) (_ : Sml x) : F_laws_toRule x = some x := rfl
theorem to_RuleS (xs : (List GRule)) (h : Sml xs) : F_laws_toRuleS xs = some xs := by
  unfold F_laws_toRuleS
  rw [mke_nat h.1, bnd_some_eq, run_copy xs h.1 ?_ ?_ _ (by simp)]
  · rfl
  · intro acc i hi hl
    simp [F_laws_toRuleS_L1, hi, idx_nat hi, idx_nat (show i < acc.length by omega), to_Rule xs[i] (h.mem hi)]
  · intro acc
    simp [F_laws_toRuleS_L1]
theorem to_Machine (x : GMachine) (h : Sml x) : F_laws_toMachine x = some x := by
  unfold F_laws_toMachine
  simp [to_RuleS x.Rules h]
theorem to_Config (x : GConfig) (h : Sml x) : F_laws_toConfig x = some x := by
  unfold F_laws_toConfig
  simp [to_Int64S x.Left h.1, to_Int64S x.Right h.2]
theorem eq_Rule (x : GRule) (_ : Med x) : F_laws_eqRule x x = some true := by
  unfold F_laws_eqRule
  simp
theorem eq_RuleS (xs : (List GRule)) (h : Med xs) : F_laws_eqRuleS xs xs = some true := by
  unfold F_laws_eqRuleS
  rw [decide_eq_false (fun k => k rfl)]
  refine run_same xs.length h.1 ?_ ?_
  · intro i hi
    simp [F_laws_eqRuleS_L1, hi, idx_nat hi, eq_Rule xs[i] (h.mem hi)]
  · simp [F_laws_eqRuleS_L1]
theorem eq_Machine (x : GMachine) (h : Med x) : F_laws_eqMachine x x = some true := by
  unfold F_laws_eqMachine
  simp [eq_RuleS x.Rules h]
theorem eq_Config (x : GConfig) (h : Med x) : F_laws_eqConfig x x = some true := by
  unfold F_laws_eqConfig
  simp [eq_Int64S x.Left h.1, eq_Int64S x.Right h.2]
theorem mark_RuleS (xs : (List GRule)) (k : Int) (hn : Med xs) (h0 : 0 ≤ k) (hk : k + (Cnt.cnt xs : Int) ≤ 4611686018427387904) : ∃ ys, F_laws_markRuleS xs k = some (k + (Cnt.cnt xs : Int), ys) ∧ True := by
  unfold F_laws_markRuleS
  suffices h_ : ∃ ys, bnd (run F_laws_markRuleS_L1 (xs, k, 0)) (Out.elim (fun (s : _ × Int × Int) => some (s.2.1, s.1)) (fun (r : Int × _) => some r)) = some (k + (Cnt.cnt xs : Int), ys) from ⟨h_.choose, h_.choose_spec, trivial⟩
  refine run_marks0 (mb := F_laws_markRuleS_L1) (fun _ => True) ?_ (fun acc k => by simp [F_laws_markRuleS_L1]) xs k hn.1 (fun _ _ => trivial) h0 hk
  intro acc i hi k hp h0 hk
  have hc : (Cnt.cnt acc[i] : Int) = 1 + 1 + 1 := by simp only [Cnt.cnt]; omega
  rw [hc] at hk ⊢
  have e0 : w64 (k + 1) = k + 1 := w64_k1 (by omega) (by omega)
  have e1 : w64 (k + 1 + 1) = k + 1 + 1 := w64_k1 (by omega) (by omega)
  have e2 : w64 (k + 1 + 1 + 1) = k + 1 + 1 + 1 := w64_k1 (by omega) (by omega)
  refine ⟨⟨k, (k + 1), (k + 1 + 1)⟩, ?_⟩
  (simp [F_laws_markRuleS_L1, hi, idx_nat hi, idx_set hi, e0, e1, e2, ← Int.add_assoc]) <;> omega

end Go.Fn
