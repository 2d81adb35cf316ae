/-
  Naturals: what the plain functions on single naturals say. No condition.
-/
import Derived.Test.YtabpcmbohmodnaaPValidTiles
namespace Go.Fn
open Go Go.Tc

def natB (xs : List Int) : Bool := decide (xs.length ≤ 40) && (xs.all fun x => inB x 0 999999) && (decide (xs.length = 0) || decide (xs.getLastD 0 ≠ 0))
theorem idx_last {xs : List Int} (h0 : xs.length ≠ 0) (h : xs.length ≤ 1048576) : idx xs (w64 ((xs.length : Int) - 1)) = some (xs.getLastD 0) := by
  rw [w64_in (by omega) (by omega), show (xs.length : Int) - 1 = ((xs.length - 1 : Nat) : Int) by omega, idx_nat (by omega)]
  congr 1
  rw [List.getLastD_eq_getLast?, List.getLast?_eq_getElem?, List.getElem?_eq_getElem (by omega)]
  rfl
theorem any_not {α : Type} (xs : List α) (p : α → Bool) : (!(xs.any fun x => !p x)) = xs.all p := by
  rw [List.not_any_eq_all_not]
  simp
theorem idx_lit {α : Type} {xs : List α} {i : Nat} (h : i < xs.length) {j : Int} (hj : j = i) : idx xs j = some xs[i] := by
  subst hj
  exact idx_nat h
end Go.Fn
