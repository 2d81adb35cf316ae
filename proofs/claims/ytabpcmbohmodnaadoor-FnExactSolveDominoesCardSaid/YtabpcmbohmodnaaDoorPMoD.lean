/-
  Derivations; the plain law of MatchOfDerivation. No program in sight. No condition.
-/
import Derived.Test.YtabpcmbohmodnaaDoorPDeriv
namespace Go.Fn
open Go Go.Tc
theorem inB_iff' {x lo hi : Int} : inB x lo hi = true ↔ lo ≤ x ∧ x ≤ hi := by
  unfold inB
  simp only [Bool.and_eq_true, decide_eq_true_eq]
theorem slc0' {α : Type} {xs : List α} {hi : Nat} (h : hi ≤ xs.length) : slc xs 0 (hi : Int) = some (xs.take hi) := by
  have := slc_ok (xs := xs) (lo := 0) (hi := hi) (Nat.zero_le _) h
  rw [List.drop_zero] at this
  exact this
theorem impl_begins (z f : List Int) (hz : z.length ≤ 1048576) : F_impl_begins z f = some (decide (z.take f.length = f)) := by
  unfold F_impl_begins
  by_cases h : f.length ≤ z.length
  · rw [decide_eq_true (by omega), cond_true, slc0' h, bnd_some_eq, impl_equal _ _ (by simp; omega)]
    rfl
  · rw [decide_eq_false (by omega), cond_false, decide_eq_false]
    intro e
    have := congrArg List.length e
    simp only [List.length_take] at this
    omega
end Go.Fn
