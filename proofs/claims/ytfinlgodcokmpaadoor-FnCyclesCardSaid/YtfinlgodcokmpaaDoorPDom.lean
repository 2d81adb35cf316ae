/-
  Dominoes: words, lists of dominoes, matches; the plain law of MatchWord. No program in sight. No condition.
-/
import Derived.Test.YtfinlgodcokmpaaDoorPRun
import Derived.Test.YtfinlgodcokmpaaDoorLaw
namespace Go.Fn
open Go Go.Tc
def wordB (xs : List Int) : Bool := decide (xs.length ≤ 400) && xs.all fun x => inB x 0 9
theorem dec_le {a b : Nat} {x y : Int} (hx : x = a) (hy : y = b) : decide (x ≤ y) = decide (a ≤ b) := by
  subst hx; subst hy
  rw [decide_eq_decide]; omega
theorem dec_lt {a b : Nat} {x y : Int} (hx : x = a) (hy : y = b) : decide (x < y) = decide (a < b) := by
  subst hx; subst hy
  rw [decide_eq_decide]; omega
theorem impl_word (xs : List Int) (h : xs.length ≤ 1048576) : F_impl_IsWord xs = some (wordB xs) := by
  unfold F_impl_IsWord F_impl_isLetters wordB
  rw [impl_allWithin xs 0 9 h, ← dec_le (x := (xs.length : Int)) (y := 400) rfl rfl]
  cases decide ((xs.length : Int) ≤ 400) <;> rfl
theorem impl_areWords (xs : List (List Int)) (h : Sml xs) : F_impl_areWords xs = some (xs.all wordB) := by
  unfold F_impl_areWords F_slices_ContainsFunc_SSint64_Sint64 F_slices_IndexFunc_SSint64_Sint64
  have h1 := h.1
  rw [run_find xs (by omega) (fun x => !wordB x) (fun i hi => by
    simp only [F_slices_IndexFunc_SSint64_Sint64_L1, F_impl_areWords_1, Int.ofNat_lt, hi, decide_true, cond_true, idx_nat hi, bnd_some_eq, impl_word _ (h.mem hi).1]
    cases wordB xs[i] <;> rfl) (by simp [F_slices_IndexFunc_SSint64_Sint64_L1])]
  simp only [bnd_some_eq]
  rw [find_any, any_not]
def rangeB (n : Nat) (ms : List Int) : Bool := decide (1 ≤ ms.length) && decide (ms.length ≤ 400) && ms.all fun m => inB m 0 ((n : Int) - 1)
theorem rangeB_mem {n : Nat} {ms : List Int} (h : rangeB n ms = true) {m : Int} (hm : m ∈ ms) : 0 ≤ m ∧ m < n := by
  unfold rangeB at h
  simp only [Bool.and_eq_true, decide_eq_true_eq] at h
  have := List.all_eq_true.1 h.2 m hm
  unfold inB at this
  simp only [Bool.and_eq_true, decide_eq_true_eq] at this
  omega
theorem rangeB_len {n : Nat} {ms : List Int} (h : rangeB n ms = true) : 1 ≤ ms.length ∧ ms.length ≤ 400 := by
  unfold rangeB at h
  simp only [Bool.and_eq_true, decide_eq_true_eq] at h
  exact h.1
theorem ints_fit {xs : List Int} (h : xs.length ≤ 1048576) : Med xs ∧ Cnt.cnt xs ≤ 1152921504606846976 := ⟨⟨by omega, fun _ _ => trivial⟩, by rw [cnt_ints]; omega⟩
end Go.Fn
