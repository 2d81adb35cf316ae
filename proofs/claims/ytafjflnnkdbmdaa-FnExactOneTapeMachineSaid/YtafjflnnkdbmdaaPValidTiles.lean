/-
  The plain functions of ValidTiles agree. No condition.
-/
import Derived.Test.YtafjflnnkdbmdaaHelp
namespace Go.Fn
open Go Go.Tc

theorem spec_in (x lo hi : Int) : F_spec_l00In x lo hi = some (inB x lo hi) := by
  unfold F_spec_l00In inB
  cases decide (lo ≤ x) <;> rfl
theorem impl_in (x lo hi : Int) : F_impl_within x lo hi = some (inB x lo hi) := by
  unfold F_impl_within inB
  cases decide (lo ≤ x) <;> rfl
theorem impl_allWithin (xs : List Int) (lo hi : Int) (h : xs.length ≤ 1048576) : F_impl_allWithin xs lo hi = some (xs.all fun x => inB x lo hi) := by
  unfold F_impl_allWithin
  rw [run_all xs.length (by omega) (fun i => inB (xs.getD i 0) lo hi) (.ret false) (.brk (xs.length : Int)) ?_ ?_ ?_]
  · have : (∀ i, i < xs.length → inB (xs.getD i 0) lo hi = true) ↔ (xs.all fun x => inB x lo hi) = true := by
      rw [List.all_eq_true]
      constructor
      · intro h x hx
        obtain ⟨i, hi, rfl⟩ := List.getElem_of_mem hx
        simpa [hi] using h i hi
      · intro h i hi
        simpa [hi] using h _ (List.getElem_mem hi)
    by_cases e : (xs.all fun x => inB x lo hi) = true
    · rw [if_pos (this.2 e), e]; rfl
    · rw [if_neg (fun k => e (this.1 k))]
      simp only [Bool.not_eq_true] at e
      rw [e]; rfl
  · intro i hi hp
    simp only [List.getD_eq_getElem?_getD, List.getElem?_eq_getElem hi, Option.getD_some] at hp
    simp [F_impl_allWithin_L1, hi, idx_nat hi, impl_in, hp]
  · intro i hi hp
    simp only [List.getD_eq_getElem?_getD, List.getElem?_eq_getElem hi, Option.getD_some] at hp
    simp [F_impl_allWithin_L1, hi, idx_nat hi, impl_in, hp]
  · simp [F_impl_allWithin_L1]
theorem nodup_iff {α : Type} {xs : List α} : xs.Nodup ↔ ∀ i (hi : i < xs.length) j (hj : j < i), xs[j] ≠ xs[i] := by
  rw [List.nodup_iff_pairwise_ne, List.pairwise_iff_getElem]
  constructor
  · intro h i hi j hj
    exact h j i (by omega) hi hj
  · intro h i j hi hj hij
    exact h j hj i hij
end Go.Fn
