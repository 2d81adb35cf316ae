/-
  Dominoes: words, lists of dominoes, matches; the plain law of MatchWord. No program in sight. No condition.
-/
import Derived.Test.YtabpcmbohmodnaaPRun
import Derived.Test.YtabpcmbohmodnaaLaw
namespace Go.Fn
open Go Go.Tc
def wordB (xs : List Int) : Bool := decide (xs.length ≤ 400) && xs.all fun x => inB x 0 9
theorem dec_le {a b : Nat} {x y : Int} (hx : x = a) (hy : y = b) : decide (x ≤ y) = decide (a ≤ b) := by
  subst hx; subst hy
  rw [decide_eq_decide]; omega
theorem dec_lt {a b : Nat} {x y : Int} (hx : x = a) (hy : y = b) : decide (x < y) = decide (a < b) := by
  subst hx; subst hy
  rw [decide_eq_decide]; omega
def rangeB (n : Nat) (ms : List Int) : Bool := decide (1 ≤ ms.length) && decide (ms.length ≤ 400) && ms.all fun m => inB m 0 ((n : Int) - 1)
theorem rangeB_mem {n : Nat} {ms : List Int} (h : rangeB n ms = true) {m : Int} (hm : m ∈ ms) : 0 ≤ m ∧ m < n := by
  unfold rangeB at h
  simp only [Bool.and_eq_true, decide_eq_true_eq] at h
  have := List.all_eq_true.1 h.2 m hm
  unfold inB at this
  simp only [Bool.and_eq_true, decide_eq_true_eq] at this
  omega
theorem rangeB_len {n : Nat} {ms : List Int} (h : rangeB n ms = true) : 1 ≤ ms.length ∧ ms.length ≤ 400 := by
  unfold rangeB at h
  simp only [Bool.and_eq_true, decide_eq_true_eq] at h
  exact h.1
theorem ints_fit {xs : List Int} (h : xs.length ≤ 1048576) : Med xs ∧ Cnt.cnt xs ≤ 1152921504606846976 := ⟨⟨by omega, fun _ _ => trivial⟩, by rw [cnt_ints]; omega⟩
end Go.Fn
