/-
  Derivations of matches; the plain law of DerivationOfMatch. No program in sight. No condition.
-/
import Derived.Test.YtneglngdbcefgaaPRules
import Derived.Test.YtneglngdbcefgaaPMatch
namespace Go.Fn
open Go Go.Tc
theorem rows_fit {xs : List (List Int)} (h1 : xs.length ≤ 1048576) (h2 : ∀ x ∈ xs, x.length ≤ 1048576) : Med xs ∧ Cnt.cnt xs ≤ 1152921504606846976 :=
  ⟨⟨by omega, fun x hx => ⟨by have := h2 x hx; omega, fun _ _ => trivial⟩⟩, Nat.le_trans (cnt_le (n := 1048576) (m := 1048576) h1 (fun x hx => by rw [cnt_ints]; exact h2 x hx)) (by decide)⟩
theorem takeWhile_stop {xs : List Int} {p : Int → Bool} (h : (xs.takeWhile p).length < xs.length) : p (xs[(xs.takeWhile p).length]) = false := by
  have h3 := List.takeWhile_append_dropWhile (p := p) (l := xs)
  have h4 : xs[(xs.takeWhile p).length]? = (xs.dropWhile p)[0]? := by
    have : (xs.takeWhile p ++ xs.dropWhile p)[(xs.takeWhile p).length]? = (xs.dropWhile p)[0]? := by rw [List.getElem?_append_right (Nat.le_refl _), Nat.sub_self]
    rwa [h3] at this
  rw [List.getElem?_eq_getElem h] at h4
  have h5 := List.head?_dropWhile_not p xs
  rw [List.head?_eq_getElem?, ← h4] at h5
  simpa using h5
def shortP (xs : List (List Int)) : List (List Int) × Int := cond (decide (100 < xs.length)) ([], 5) (xs, 0)
end Go.Fn
