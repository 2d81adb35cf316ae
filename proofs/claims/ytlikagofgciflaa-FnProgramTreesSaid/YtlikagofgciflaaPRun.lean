/-
  Loops over a row with a carried datum. No program in sight. No condition.
-/
import Derived.Test.YtlikagofgciflaaPNat
namespace Go.Tc
open Go
theorem run_rowf {α σ S X : Type} {body : S → Option (S ⊕ X)} (xs : List α) (hn : xs.length ≤ 4611686018427387903) (st : σ → Int → S) (f : σ → α → σ) (I : Nat → σ → Prop)
  (h : ∀ (i : Nat) (hi : i < xs.length) (a : σ), I i a → body (st a (i : Int)) = some (.inl (st (f a xs[i]) (w64 ((i : Int) + 1)))) ∧ I (i + 1) (f a xs[i])) (a0 : σ) (h0 : I 0 a0) :
  run body (st a0 0) = run body (st (xs.foldl f a0) (xs.length : Int)) ∧ I xs.length (xs.foldl f a0) := by
 have key : ∀ k i a, i + k = xs.length → I i a → run body (st a (i : Int)) = run body (st ((xs.drop i).foldl f a) (xs.length : Int)) ∧ I xs.length ((xs.drop i).foldl f a) := by
  intro k
  induction k with
  | zero =>
   intro i a hi hI
   obtain rfl : i = xs.length := by omega
   rw [List.drop_length]
   exact ⟨rfl, hI⟩
  | succ k ih =>
   intro i a hi hI
   have hlt : i < xs.length := by omega
   obtain ⟨e, hI'⟩ := h i hlt a hI
   rw [run_next e, w64_nat1 (by omega), List.drop_eq_getElem_cons hlt, List.foldl_cons]
   exact ih (i + 1) _ (by omega) hI'
 have := key xs.length 0 a0 (by omega) h0
 rwa [List.drop_zero, show ((0 : Nat) : Int) = 0 from rfl] at this
end Go.Tc
