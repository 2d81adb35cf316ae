/-
  The plain law of FnMirrored. No program in sight. No condition.
-/
import Derived.Test.YtgojoooilijiiaaPMir
namespace Go.Fn
open Go Go.Tc
theorem set_mid {α : Type} (a x : α) (r : List α) : ∀ d : List α, (d ++ a :: r).set d.length x = d ++ x :: r
  | [] => rfl
  | y :: d => by
    rw [List.cons_append, List.length_cons, List.set_cons_succ, set_mid a x r d]
    rfl
theorem mirrored_run (m : GMachine) (h : m.Rules.length ≤ 1048576) : ∀ (rest d : List GRule), d.length + rest.length = m.Rules.length →
    run (F_impl_mirrored_L1 m) (d ++ rest, (d.length : Int)) = some (.brk (d ++ rest.map mirR, (m.Rules.length : Int)))
  | [], d, hl => by
    rw [List.length_nil, Nat.add_zero] at hl
    refine run_done ?_
    simp only [F_impl_mirrored_L1]
    rw [decide_eq_false (by omega), cond_false, List.map_nil, hl]
  | a :: rest, d, hl => by
    rw [List.length_cons] at hl
    have hi : idx (d ++ a :: rest) (d.length : Int) = some a := by
      have hlt : d.length < (d ++ a :: rest).length := by simp
      rw [idx_nat hlt]
      congr 1
      rw [List.getElem_append_right (Nat.le_refl _)]
      simp
    have hb : F_impl_mirrored_L1 m (d ++ a :: rest, (d.length : Int)) = some (.inl ((d ++ [mirR a]) ++ rest, ((d ++ [mirR a]).length : Int))) := by
      simp only [F_impl_mirrored_L1]
      rw [decide_eq_true (by omega), cond_true, hi, bnd_some_eq, bnd_some_eq, Int.toNat_natCast, set_mid, w64_nat1 (by omega), List.append_assoc, List.length_append]
      rfl
    rw [run_next hb, mirrored_run m h rest (d ++ [mirR a]) (by rw [List.length_append, List.length_singleton]; omega), List.append_assoc]
    rfl
theorem impl_mirrored (m : GMachine) (h : m.Rules.length ≤ 1048576) : F_impl_mirrored m = some (mirM m) := by
  unfold F_impl_mirrored F_impl_copyMachine F_slices_Clone_Simpl_Rule_impl_Rule
  rw [app_ok (by simp; omega)]
  simp only [bnd_some_eq, List.nil_append]
  have := mirrored_run ⟨m.Symbols, m.States, m.Rules⟩ h m.Rules [] (by simp)
  rw [List.nil_append, List.length_nil, show ((0 : Nat) : Int) = 0 from rfl] at this
  rw [this]
  rfl
theorem impl_MirrorM {m : GMachine} (hm : machB m = true) : F_impl_MirrorMachine m = some (mirM m, 0) := by
  have := (machB_sml hm).1
  unfold F_impl_MirrorMachine
  rw [impl_mach m (machB_sml hm), bnd_some_eq, hm, impl_mirrored m (by simpa using this)]
  rfl
theorem impl_MirrorC {m : GMachine} (hm : machB m = true) {c : GConfig} (hc : confB m c = true) : F_impl_MirrorConfig m c = some (if 200 < (mirC c).Right.length then (⟨0, [], []⟩, 5) else (mirC c, 0)) := by
  have hl := confB_len hc
  unfold F_impl_MirrorConfig
  rw [impl_confV m c (machB_sml hm) (confB_sml hc), bnd_some_eq, hm, hc]
  simp only [Bool.and_self, Bool.not_true, cond_false]
  have key : ∀ (t : List Int) (x : Int), t = c.Right.tail → x = c.Right.getD 0 0 → (bnd (app [x] c.Left) fun z27 => bnd (F_impl_trimmed z27) fun r30 => (cond (decide (200 < (r30.length : Int))) (some ((⟨0, ([] : (List Int)), ([] : (List Int))⟩ : GConfig), (5 : Int))) (some ((⟨c.State, t, r30⟩ : GConfig), 0)))) = some (if 200 < (mirC c).Right.length then (⟨0, [], []⟩, 5) else (mirC c, 0)) := by
    rintro t x rfl rfl
    rw [app_ok (by simp; omega), bnd_some_eq, impl_trimmed _ (by simp; omega), bnd_some_eq]
    show cond (decide (200 < (((mirC c).Right.length : Nat) : Int))) _ (some (mirC c, 0)) = _
    by_cases h : 200 < (mirC c).Right.length
    · rw [decide_eq_true (by omega), cond_true, if_pos h]
    · rw [decide_eq_false (by omega), cond_false, if_neg h]
  cases hr : c.Right with
  | nil =>
    rw [decide_eq_false (by simp), cond_false, bnd_some_eq]
    exact key [] 0 (by simp [hr]) (by simp [hr])
  | cons x t =>
    have ht : t.length ≤ 200 := by rw [hr] at hl; simp at hl; omega
    rw [decide_eq_true (by simp), cond_true, show idx (x :: t) 0 = some x from rfl, bnd_some_eq, show idx ([0] : List Int) 0 = some 0 from rfl, bnd_some_eq]
    have hs : slc (x :: t) 1 ((x :: t).length : Int) = some t := by
      unfold slc
      rw [if_pos (by simp; omega)]
      simp
    rw [hs, bnd_some_eq, impl_clone' _ (by omega), bnd_some_eq, bnd_some_eq]
    exact key t x (by simp [hr]) (by simp [hr])
theorem impl_StepM {m : GMachine} {s q : Nat} (hm : machB m = true) (M : MaI m s q) {c : GConfig} (hc : confB m c = true) : F_impl_StepMachine m c = some (if ruleAt m c = noR then (⟨0, [], []⟩, 6) else if small (stepC (ruleAt m c) c) = true then (stepC (ruleAt m c) c, 0) else (⟨0, [], []⟩, 5)) := by
  have hT := CfT.of M hc
  unfold F_impl_StepMachine
  rw [impl_confV m c (machB_sml hm) (confB_sml hc), bnd_some_eq, hm, hc, impl_runnerOf hc]
  simp only [bnd_some_eq, Bool.and_self, Bool.not_true, cond_false]
  have hh : F_impl_runner_halts ⟨m.Symbols, m.States, m.Rules, c.State, c.Left.reverse, c.Right.reverse⟩ = some (decide (ruleAt m c = noR)) := impl_haltsR M hT.cf (by omega)
  have hs : F_impl_runner_step ⟨m.Symbols, m.States, m.Rules, c.State, c.Left.reverse, c.Right.reverse⟩ = _ := impl_stepR M hT.cf (by omega) hT.lt hT.rt
  rw [hh, bnd_some_eq, hs]
  by_cases hn : ruleAt m c = noR
  · rw [decide_eq_true hn, if_pos hn]
    rfl
  · rw [decide_eq_false hn, if_neg hn, cond_false, bnd_some_eq]
    by_cases hk : small (stepC (ruleAt m c) c) = true
    · have hT2 := hT.step M hn hk
      have hcf : F_impl_runner_config ⟨m.Symbols, m.States, m.Rules, (stepC (ruleAt m c) c).State, (stepC (ruleAt m c) c).Left.reverse, (stepC (ruleAt m c) c).Right.reverse⟩ = some (stepC (ruleAt m c) c) := impl_configR m _ (by have := hT2.cf.ll; omega) (by have := hT2.cf.rl; omega)
      rw [if_pos hk]
      simp only [hk, Bool.not_true, cond_false]
      rw [hcf, bnd_some_eq]
    · have hk' : small (stepC (ruleAt m c) c) = false := by simpa using hk
      rw [if_neg hk]
      simp only [hk', Bool.not_false, cond_true]
theorem law_Mirrored (c d : List (Ik .u8)) (w0 : Wf.wf c) (w1 : Wf.wf d) : F_laws_FnMirrored c d = some true := by
  unfold F_laws_FnMirrored
  rw [r8_long, bnd_some_eq]
  by_cases hl : 1048576 < c.length
  · rw [decide_eq_true hl, Bool.true_or, cond_true]
  rw [decide_eq_false hl, Bool.false_or]
  by_cases hl2 : 1048576 < d.length
  · rw [decide_eq_true hl2, cond_true]
  rw [decide_eq_false hl2, cond_false]
  have hc := bytes_of w0 (by omega)
  obtain ⟨m, x, e1, hm, hx⟩ := src_r8Machine hc
  obtain ⟨s, q, M⟩ := machB_mai hm
  have hm' := mirM_ok hm
  have hT := CfT.of M hx
  have M' : MaI (mirM m) s q := by
    obtain ⟨s', q', M'⟩ := machB_mai hm'
    have h1 : (s' : Int) = s := M'.hs.symm.trans M.hs
    have h2 : (q' : Int) = q := M'.hq.symm.trans M.hq
    obtain rfl : s' = s := by omega
    obtain rfl : q' = q := by omega
    exact M'
  rw [e1, bnd_some_eq]
  simp only
  rw [impl_MirrorM hm, bnd_some_eq, impl_MirrorC hm hx, bnd_some_eq]
  simp only
  rw [impl_mach _ (machB_sml hm'), hm']
  simp only [ne_eq, not_true, decide_false, cond_false, bnd_some_eq, Bool.not_true, Out.elim]
  by_cases hf : 200 < (mirC x).Right.length
  · rw [if_pos hf]
    rfl
  rw [if_neg hf]
  have hT' := mirC_conf M hT (by omega)
  have hx' : confB (mirM m) (mirC x) = true := hT'.conf M'
  have hrm : (ruleAt m x = noR) ↔ (ruleAt (mirM m) (mirC x) = noR) := by
    rw [ruleAt_mir]
    exact (mirR_iff (M.hr _ (ruleAt_idx M hT.cf).2)).symm
  simp only
  rw [impl_StepM hm M hx, bnd_some_eq, impl_StepM hm' M' hx', bnd_some_eq, decide_eq_false (by decide : ¬ (0 : Int) = 5), cond_false, decide_eq_false (by decide : ¬ ¬ True), cond_false]
  by_cases hn : ruleAt m x = noR
  · rw [if_pos hn, if_pos (hrm.1 hn)]
    rfl
  have hn' := fun e => hn (hrm.2 e)
  rw [if_neg hn, if_neg hn']
  obtain ⟨_, hmv, _⟩ := rule_in M (ruleAt_idx M hT.cf).2 hn
  have hst := mirC_step hmv hT.lt hT.rt
  rw [← ruleAt_mir] at hst
  by_cases hk : small (stepC (ruleAt m x) x) = true
  · rw [if_pos hk]
    by_cases hk' : small (stepC (ruleAt (mirM m) (mirC x)) (mirC x)) = true
    · rw [if_pos hk']
      have hT2 := hT.step M hn hk
      have hT2' := hT'.step M' hn' hk'
      simp only [ne_eq, not_true, decide_false, cond_false, bnd_some_eq, Out.elim, decide_eq_false (by decide : ¬ (0 : Int) = 5)]
      rw [impl_MirrorC hm (hT2.conf M), bnd_some_eq]
      by_cases hg : 200 < (mirC (stepC (ruleAt m x) x)).Right.length
      · rw [if_pos hg]
        rfl
      · rw [if_neg hg]
        simp only
        rw [decide_eq_false (by decide), cond_false, decide_true, cond_true, hst, r8_config _ (by have := hT2'.cf.ll; omega) (by have := hT2'.cf.rl; omega)]
        rfl
    · rw [if_neg hk']
      rfl
  · rw [if_neg hk]
    rfl
end Go.Fn
