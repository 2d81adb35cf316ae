/-
  Dominoes of rewriting rules: the plain law of RewritesToDominoes. No program in sight. No condition.
-/
import Derived.Test.YtneglngdbcefgaaPPlain
namespace Go.Fn
open Go Go.Tc
def rewB (r : GRewrite) : Bool := wordB r.From && wordB r.To && decide (r.From.length ≠ 0)
def rewsB (rs : List GRewrite) : Bool := decide (1 ≤ rs.length) && decide (rs.length ≤ 60) && rs.all rewB
theorem rewsB_len {rs : List GRewrite} (h : rewsB rs = true) : 1 ≤ rs.length ∧ rs.length ≤ 60 := by
  unfold rewsB at h
  simp only [Bool.and_eq_true, decide_eq_true_eq] at h
  exact h.1
theorem rewsB_mem {rs : List GRewrite} (h : rewsB rs = true) {r : GRewrite} (hr : r ∈ rs) : r.From.length ≤ 400 ∧ r.To.length ≤ 400 := by
  unfold rewsB at h
  simp only [Bool.and_eq_true, decide_eq_true_eq] at h
  have := List.all_eq_true.1 h.2 r hr
  unfold rewB wordB at this
  simp only [Bool.and_eq_true, decide_eq_true_eq] at this
  exact ⟨this.1.1.1, this.1.2.1⟩
theorem spec_own (xs : List Int) (h : xs.length ≤ 1048576) : F_spec_l00Own xs = some xs := by
  unfold F_spec_l00Own
  rw [app_ok (by simp; omega)]
  rfl
end Go.Fn
