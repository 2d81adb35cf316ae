/-
  Dominoes of rewriting rules: the plain law of RewritesToDominoes. No program in sight. No condition.
-/
import Derived.Test.YtneglngdbcefgaaPPlain
namespace Go.Fn
open Go Go.Tc
def rewB (r : GRewrite) : Bool := wordB r.From && wordB r.To && decide (r.From.length ≠ 0)
def rewsB (rs : List GRewrite) : Bool := decide (1 ≤ rs.length) && decide (rs.length ≤ 60) && rs.all rewB
theorem spec_rews (rs : List GRewrite) (h : Sml rs) : F_spec_l10Is rs = some (rewsB rs) := by
  have h1 := h.1
  unfold F_spec_l10Is rewsB
  rw [dec_lt (x := (rs.length : Int)) (y := 1) rfl rfl, dec_lt (x := 60) (y := (rs.length : Int)) rfl rfl]
  by_cases l1 : rs.length < 1
  · rw [decide_eq_true l1, decide_eq_false (by omega : ¬ 1 ≤ rs.length)]; rfl
  by_cases l2 : 60 < rs.length
  · rw [decide_eq_false l1, decide_eq_true l2, decide_eq_false (by omega : ¬ rs.length ≤ 60), Bool.and_false]; rfl
  rw [decide_eq_false l1, decide_eq_false l2, decide_eq_true (by omega : rs.length ≤ 60), decide_eq_true (by omega : 1 ≤ rs.length)]
  simp only [cond_false, bnd_some_eq, Out.elim, Bool.true_and]
  rw [run_allp rs (by omega) rewB (.ret false) (.brk (rs.length : Int)) (fun i hi => by
    have hd := h.mem hi
    have e1 := hd.1.1
    have e2 := hd.2.1
    simp only [F_spec_l10Is_L1, Int.ofNat_lt, hi, decide_true, cond_true, idx_nat hi, bnd_some_eq, spec_word _ e1, spec_word _ e2, dec_zero]
    unfold rewB
    cases wordB rs[i].From
    · rfl
    cases wordB rs[i].To
    · rfl
    cases decide (rs[i].From.length ≠ 0) <;> rfl) (by simp [F_spec_l10Is_L1])]
  cases rs.all rewB <;> rfl
theorem two_words (a b : List Int) (ha : Sml a) (hb : Sml b) : F_impl_areWords [a, b] = some (wordB a && wordB b) := by
  rw [impl_areWords [a, b] ⟨by simp, by simp only [List.mem_cons, List.not_mem_nil, or_false]; exact fun x hx => hx.elim (fun e => e ▸ ha) (fun e => e ▸ hb)⟩]
  simp
theorem impl_rews (rs : List GRewrite) (h : Sml rs) : F_impl_ValidRewrites rs = some (rewsB rs) := by
  have h1 := h.1
  unfold F_impl_ValidRewrites F_impl_size_impl_Rewrite F_slices_ContainsFunc_Simpl_Rewrite_impl_Rewrite F_slices_IndexFunc_Simpl_Rewrite_impl_Rewrite rewsB
  simp only [bnd_some_eq, impl_in]
  rw [run_find rs (by omega) (fun x => !rewB x) (fun i hi => by
    have hd := h.mem hi
    simp only [F_slices_IndexFunc_Simpl_Rewrite_impl_Rewrite_L1, F_impl_ValidRewrites_1, Int.ofNat_lt, hi, decide_true, cond_true, idx_nat hi, bnd_some_eq, two_words _ _ hd.1 hd.2, dec_zero]
    unfold rewB
    cases wordB rs[i].From && wordB rs[i].To
    · rfl
    cases decide (rs[i].From.length ≠ 0) <;> rfl) (by simp [F_slices_IndexFunc_Simpl_Rewrite_impl_Rewrite_L1])]
  simp only [bnd_some_eq]
  rw [find_any, any_not]
  have : inB (rs.length : Int) 1 60 = (decide (1 ≤ rs.length) && decide (rs.length ≤ 60)) := by
    unfold inB
    rw [dec_le (x := 1) (y := (rs.length : Int)) rfl rfl, dec_le (x := (rs.length : Int)) (y := 60) rfl rfl]
  rw [this]
  cases decide (1 ≤ rs.length) && decide (rs.length ≤ 60) <;> rfl
theorem rewsB_len {rs : List GRewrite} (h : rewsB rs = true) : 1 ≤ rs.length ∧ rs.length ≤ 60 := by
  unfold rewsB at h
  simp only [Bool.and_eq_true, decide_eq_true_eq] at h
  exact h.1
theorem rewsB_mem {rs : List GRewrite} (h : rewsB rs = true) {r : GRewrite} (hr : r ∈ rs) : r.From.length ≤ 400 ∧ r.To.length ≤ 400 := by
  unfold rewsB at h
  simp only [Bool.and_eq_true, decide_eq_true_eq] at h
  have := List.all_eq_true.1 h.2 r hr
  unfold rewB wordB at this
  simp only [Bool.and_eq_true, decide_eq_true_eq] at this
  exact ⟨this.1.1.1, this.1.2.1⟩
theorem wordB_len {w : List Int} (h : wordB w = true) : w.length ≤ 400 := by
  unfold wordB at h
  simp only [Bool.and_eq_true, decide_eq_true_eq] at h
  exact h.1
def smallB (xs : List Int) : Bool := xs.all fun x => inB x 0 5
theorem spec_own (xs : List Int) (h : xs.length ≤ 1048576) : F_spec_l00Own xs = some xs := by
  unfold F_spec_l00Own
  rw [app_ok (by simp; omega)]
  rfl
theorem impl_clone (xs : List Int) (h : xs.length ≤ 1048576) : F_slices_Clone_Sint64_int64 xs = some xs := by
  unfold F_slices_Clone_Sint64_int64
  rw [app_ok (by simp; omega)]
  rfl
end Go.Fn
