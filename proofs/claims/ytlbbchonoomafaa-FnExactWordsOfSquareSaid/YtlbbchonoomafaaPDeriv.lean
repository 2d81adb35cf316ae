/-
  Derivations of matches; the plain law of DerivationOfMatch. No program in sight. No condition.
-/
import Derived.Test.YtlbbchonoomafaaPRules
import Derived.Test.YtlbbchonoomafaaPMatch
namespace Go.Fn
open Go Go.Tc
theorem rows_fit {xs : List (List Int)} (h1 : xs.length ≤ 1048576) (h2 : ∀ x ∈ xs, x.length ≤ 1048576) : Med xs ∧ Cnt.cnt xs ≤ 1152921504606846976 :=
  ⟨⟨by omega, fun x hx => ⟨by have := h2 x hx; omega, fun _ _ => trivial⟩⟩, Nat.le_trans (cnt_le (n := 1048576) (m := 1048576) h1 (fun x hx => by rw [cnt_ints]; exact h2 x hx)) (by decide)⟩
def dstep (ds : List GDomino) (a : List (List Int) × Int) (y : Int) : List (List Int) × Int :=
  cond (decide (y = 0)) (a.1, 0) (cond (decide (y = 7)) (a.1, 0) (cond (decide (8 ≤ y)) (a.1 ++ [[w64 (y - 8), a.2]]) a.1, w64 (a.2 + ((ds.getD y.toNat zD).Bottom.length : Int))))
theorem dstep_inv {ds : List GDomino} {a : List (List Int) × Int} {y : Int} {i : Nat} (h : a.1.length ≤ i ∧ ∀ x ∈ a.1, x.length ≤ 2) : (dstep ds a y).1.length ≤ i + 1 ∧ ∀ x ∈ (dstep ds a y).1, x.length ≤ 2 := by
  unfold dstep
  cases decide (y = 0)
  · cases decide (y = 7)
    · cases decide (8 ≤ y)
      · exact ⟨by show a.1.length ≤ _; omega, h.2⟩
      · refine ⟨by simp; omega, fun x hx => ?_⟩
        simp only [cond_false, cond_true, List.mem_append, List.mem_singleton] at hx
        rcases hx with hx | rfl
        · exact h.2 x hx
        · simp
    · exact ⟨by show a.1.length ≤ _; omega, h.2⟩
  · exact ⟨by show a.1.length ≤ _; omega, h.2⟩
theorem takeWhile_stop {xs : List Int} {p : Int → Bool} (h : (xs.takeWhile p).length < xs.length) : p (xs[(xs.takeWhile p).length]) = false := by
  have h3 := List.takeWhile_append_dropWhile (p := p) (l := xs)
  have h4 : xs[(xs.takeWhile p).length]? = (xs.dropWhile p)[0]? := by
    have : (xs.takeWhile p ++ xs.dropWhile p)[(xs.takeWhile p).length]? = (xs.dropWhile p)[0]? := by rw [List.getElem?_append_right (Nat.le_refl _), Nat.sub_self]
    rwa [h3] at this
  rw [List.getElem?_eq_getElem h] at h4
  have h5 := List.head?_dropWhile_not p xs
  rw [List.head?_eq_getElem?, ← h4] at h5
  simpa using h5
def derivR (ds : List GDomino) (ms : List Int) : List (List Int) × Int := ((ms.drop 1).takeWhile fun y => decide (y ≠ (ds.length : Int) - 1)).foldl (dstep ds) ([], 0)
theorem derivR_inv (ds : List GDomino) (ms : List Int) (h : ms.length ≤ 400) : (derivR ds ms).1.length ≤ 400 ∧ ∀ x ∈ (derivR ds ms).1, x.length ≤ 2 := by
  have key : ∀ (xs : List Int) (a : List (List Int) × Int) (i : Nat), (a.1.length ≤ i ∧ ∀ x ∈ a.1, x.length ≤ 2) → (xs.foldl (dstep ds) a).1.length ≤ i + xs.length ∧ ∀ x ∈ (xs.foldl (dstep ds) a).1, x.length ≤ 2 := by
    intro xs
    induction xs with
    | nil => intro a i h; exact h
    | cons y xs ih =>
      intro a i h
      have := ih _ _ (dstep_inv (ds := ds) (y := y) h)
      rw [List.foldl_cons, List.length_cons]
      exact ⟨by omega, this.2⟩
  have := key ((ms.drop 1).takeWhile fun y => decide (y ≠ (ds.length : Int) - 1)) ([], 0) 0 ⟨Nat.zero_le _, by simp⟩
  have hl := (List.takeWhile_prefix (l := ms.drop 1) (fun y => decide (y ≠ (ds.length : Int) - 1))).length_le
  simp only [List.length_drop] at hl
  exact ⟨by unfold derivR; omega, this.2⟩
def shortP (xs : List (List Int)) : List (List Int) × Int := cond (decide (100 < xs.length)) ([], 5) (xs, 0)
end Go.Fn
