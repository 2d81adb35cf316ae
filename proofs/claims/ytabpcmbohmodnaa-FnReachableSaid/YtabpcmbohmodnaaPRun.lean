/-
  Loops over a row with a carried datum. No program in sight. No condition.
-/
import Derived.Test.YtabpcmbohmodnaaPNat
namespace Go.Tc
open Go
/-- A loop over a row that carries a datum. -/
theorem run_rowf {α σ S X : Type} {body : S → Option (S ⊕ X)} (xs : List α) (hn : xs.length ≤ 4611686018427387903) (st : σ → Int → S) (f : σ → α → σ) (I : Nat → σ → Prop)
    (h : ∀ (i : Nat) (hi : i < xs.length) (a : σ), I i a → body (st a (i : Int)) = some (.inl (st (f a xs[i]) (w64 ((i : Int) + 1)))) ∧ I (i + 1) (f a xs[i])) (a0 : σ) (h0 : I 0 a0) :
    run body (st a0 0) = run body (st (xs.foldl f a0) (xs.length : Int)) ∧ I xs.length (xs.foldl f a0) := by
  have key : ∀ k i a, i + k = xs.length → I i a → run body (st a (i : Int)) = run body (st ((xs.drop i).foldl f a) (xs.length : Int)) ∧ I xs.length ((xs.drop i).foldl f a) := by
    intro k
    induction k with
    | zero =>
      intro i a hi hI
      obtain rfl : i = xs.length := by omega
      rw [List.drop_length]
      exact ⟨rfl, hI⟩
    | succ k ih =>
      intro i a hi hI
      have hlt : i < xs.length := by omega
      obtain ⟨e, hI'⟩ := h i hlt a hI
      rw [run_next e, w64_nat1 (by omega), List.drop_eq_getElem_cons hlt, List.foldl_cons]
      exact ih (i + 1) _ (by omega) hI'
  have := key xs.length 0 a0 (by omega) h0
  rwa [List.drop_zero, show ((0 : Nat) : Int) = 0 from rfl] at this
/-- The same, with an early end at the first place that is not as asked for. -/
theorem run_rowx {α σ S X : Type} {body : S → Option (S ⊕ X)} (xs : List α) (hn : xs.length ≤ 4611686018427387903) (st : σ → Int → S) (f : σ → α → σ) (p : α → Bool) (x : X) (I : Nat → σ → Prop)
    (h : ∀ (i : Nat) (hi : i < xs.length) (a : σ), I i a → p xs[i] = true → body (st a (i : Int)) = some (.inl (st (f a xs[i]) (w64 ((i : Int) + 1)))) ∧ I (i + 1) (f a xs[i]))
    (hx : ∀ (i : Nat) (hi : i < xs.length) (a : σ), I i a → p xs[i] = false → body (st a (i : Int)) = some (.inr x)) (a0 : σ) (h0 : I 0 a0) :
    (xs.all p = false → run body (st a0 0) = some x) ∧ (xs.all p = true → run body (st a0 0) = run body (st (xs.foldl f a0) (xs.length : Int)) ∧ I xs.length (xs.foldl f a0)) := by
  have key : ∀ k i a, i + k = xs.length → I i a → ((xs.drop i).all p = false → run body (st a (i : Int)) = some x) ∧ ((xs.drop i).all p = true → run body (st a (i : Int)) = run body (st ((xs.drop i).foldl f a) (xs.length : Int)) ∧ I xs.length ((xs.drop i).foldl f a)) := by
    intro k
    induction k with
    | zero =>
      intro i a hi hI
      obtain rfl : i = xs.length := by omega
      rw [List.drop_length]
      exact ⟨fun h => by simp at h, fun _ => ⟨rfl, hI⟩⟩
    | succ k ih =>
      intro i a hi hI
      have hlt : i < xs.length := by omega
      rw [List.drop_eq_getElem_cons hlt, List.foldl_cons, List.all_cons]
      cases hp : p xs[i] with
      | false =>
        refine ⟨fun _ => run_done (hx i hlt a hI hp), fun h => by simp at h⟩
      | true =>
        obtain ⟨e, hI'⟩ := h i hlt a hI hp
        rw [run_next e, w64_nat1 (by omega), Bool.true_and]
        exact ih (i + 1) _ (by omega) hI'
  have := key xs.length 0 a0 (by omega) h0
  rwa [List.drop_zero, show ((0 : Nat) : Int) = 0 from rfl] at this
theorem w64_add {n m : Nat} (h : n + m ≤ 4611686018427387904) : w64 ((n : Int) + (m : Int)) = ((n + m : Nat) : Int) := by
  rw [w64_in (by omega) (by omega)]
  omega
theorem idx_getD {α : Type} {xs : List α} {i : Int} (d : α) (h0 : 0 ≤ i) (h : i < xs.length) : idx xs i = some (xs.getD i.toNat d) := by
  rw [idx_int h0 h, List.getD_eq_getElem?_getD, List.getElem?_eq_getElem (by omega)]
  rfl
theorem foldl_app2 {α β γ : Type} (f : α → List β) (g : α → List γ) : ∀ (xs : List α) (a : List β) (b : List γ), xs.foldl (fun s x => (s.1 ++ f x, s.2 ++ g x)) (a, b) = (a ++ xs.flatMap f, b ++ xs.flatMap g)
  | [], a, b => by simp
  | x :: xs, a, b => by rw [List.foldl_cons, foldl_app2 f g xs]; simp
theorem foldl_app1 {α β : Type} (f : α → List β) : ∀ (xs : List α) (a : List β), xs.foldl (fun s x => s ++ f x) a = a ++ xs.flatMap f
  | [], a => by simp
  | x :: xs, a => by rw [List.foldl_cons, foldl_app1 f xs]; simp
theorem flatMap_length_le {α β : Type} (f : α → List β) {n : Nat} : ∀ (xs : List α), (∀ x ∈ xs, (f x).length ≤ n) → (xs.flatMap f).length ≤ xs.length * n
  | [], _ => by simp
  | x :: xs, h => by
    have h1 := h x (by simp)
    have h2 := flatMap_length_le f xs (fun y hy => h y (by simp [hy]))
    simp only [List.flatMap_cons, List.length_append, List.length_cons, Nat.add_mul]
    omega
end Go.Tc
