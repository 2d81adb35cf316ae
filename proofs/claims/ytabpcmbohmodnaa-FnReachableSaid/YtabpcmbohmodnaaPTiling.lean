/-
  The plain functions of IsTiling agree. No condition.
-/
import Derived.Test.YtabpcmbohmodnaaPValidTiles
namespace Go.Fn
open Go Go.Tc

def frameB (xs : List Int) : Bool := decide (0 < xs.length) && decide (xs.length ≤ 30) && xs.all fun x => inB x 0 9999
theorem idx_in {α : Type} {xs : List α} {r : Int} (hl : xs.length ≤ 1048576) : inB r 0 (w64 ((xs.length : Int) - 1)) = (idx xs r).isSome := by
  rw [w64_in (by omega) (by omega)]
  unfold inB idx
  by_cases h : r < 0
  · simp [h]; omega
  · rw [if_neg h]
    by_cases h2 : r.toNat < xs.length
    · rw [List.getElem?_eq_getElem h2]
      simp
      omega
    · rw [List.getElem?_eq_none (by omega)]
      simp
      omega
theorem drop_cons {α : Type} {xs : List α} {k : Nat} (h : k < xs.length) : xs.drop k = xs[k] :: xs.drop (k + 1) := List.drop_eq_getElem_cons h

def fewB (rows : List (List Int)) : Bool := decide (0 < rows.length) && decide (rows.length ≤ 40)
end Go.Fn
