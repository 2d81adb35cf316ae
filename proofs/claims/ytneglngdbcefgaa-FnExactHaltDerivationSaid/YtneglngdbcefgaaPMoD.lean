/-
  Derivations; the plain law of MatchOfDerivation. No program in sight. No condition.
-/
import Derived.Test.YtneglngdbcefgaaPDeriv
namespace Go.Fn
open Go Go.Tc
theorem slc0' {α : Type} {xs : List α} {hi : Nat} (h : hi ≤ xs.length) : slc xs 0 (hi : Int) = some (xs.take hi) := by
  have := slc_ok (xs := xs) (lo := 0) (hi := hi) (Nat.zero_le _) h
  rw [List.drop_zero] at this
  exact this
def zR : GRewrite := ⟨[], []⟩
def putW (w t : List Int) (a n : Nat) : List Int := w.take a ++ t ++ w.drop (a + n)
theorem rget_len {rs : List GRewrite} (h : rewsB rs = true) (k : Nat) : (rs.getD k zR).From.length ≤ 400 ∧ (rs.getD k zR).To.length ≤ 400 := by
  rw [List.getD_eq_getElem?_getD]
  cases e : rs[k]? with
  | none => exact ⟨Nat.zero_le _, Nat.zero_le _⟩
  | some d => exact rewsB_mem h (List.mem_of_getElem? e)
theorem take_eq_len {w f : List Int} {a : Nat} (h : (w.drop a).take f.length = f) (ha : a ≤ w.length) : a + f.length ≤ w.length := by
  have := congrArg List.length h
  simp only [List.length_take, List.length_drop] at this
  omega
theorem putW_len {w t : List Int} {a n : Nat} (h : a + n ≤ w.length) : (putW w t a n).length = w.length - n + t.length := by
  simp [putW]; omega
theorem impl_begins (z f : List Int) (hz : z.length ≤ 1048576) : F_impl_begins z f = some (decide (z.take f.length = f)) := by
  unfold F_impl_begins
  by_cases h : f.length ≤ z.length
  · rw [decide_eq_true (by omega), cond_true, slc0' h, bnd_some_eq, impl_equal _ _ (by simp; omega)]
    rfl
  · rw [decide_eq_false (by omega), cond_false, decide_eq_false]
    intro e
    have := congrArg List.length e
    simp only [List.length_take] at this
    omega
theorem spec_at (w f : List Int) (a : Nat) (hw : w.length ≤ 1048576) (ha : a ≤ w.length) (hf : f.length ≤ 1048576) : F_spec_l03At w (a : Int) f = some (decide ((w.drop a).take f.length = f)) := by
  unfold F_spec_l03At
  rw [w64_add (by omega)]
  by_cases h : a + f.length ≤ w.length
  · rw [decide_eq_true (by omega), cond_true, slc_ok (by omega) h, bnd_some_eq, spec_same _ _ (by simp; omega)]
    rw [List.drop_take, Nat.add_sub_cancel_left]
    rfl
  · rw [decide_eq_false (by omega), cond_false, decide_eq_false]
    intro e
    exact h (take_eq_len e ha)
theorem spec_put (w t : List Int) (a n : Nat) (hw : w.length ≤ 1048576) (ht : t.length ≤ 1048576) (h : a + n ≤ w.length) : F_spec_l03Put w (a : Int) (n : Int) t = some (putW w t a n) := by
  unfold F_spec_l03Put
  rw [slc0' (by omega), bnd_some_eq, spec_own _ (by simp; omega), bnd_some_eq, app_ok (by simp; omega), bnd_some_eq, w64_add (by omega), slc_from h, bnd_some_eq, app_ok (by simp; omega), bnd_some_eq]
  rfl
theorem impl_put (w t : List Int) (a n : Nat) (hw : w.length ≤ 400000) (ht : t.length ≤ 400) (h : a + n ≤ w.length) : F_impl_replaced w (a : Int) (n : Int) t = some (putW w t a n) := by
  unfold F_impl_replaced
  rw [slc0' (by omega), bnd_some_eq, w64_add (by omega), slc_from h, bnd_some_eq, impl_joined _ (by simp) (by simp; omega), bnd_some_eq]
  simp [putW]
end Go.Fn
