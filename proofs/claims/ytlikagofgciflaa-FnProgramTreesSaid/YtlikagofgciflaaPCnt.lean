/-
  The plain law of CountTilings: both searches are one. No program in sight. No condition.
-/
import Derived.Test.YtlikagofgciflaaPTiling
import Derived.Test.YtlikagofgciflaaLaw
namespace Go.Fn
open Go Go.Tc
def OLe {R : Type} (f g : Option R) : Prop := ∀ r, f = some r → g = some r
theorem OLe.refl {R : Type} (f : Option R) : OLe f f := fun _ h => h
theorem OLe.bnd {α R : Type} {m m' : Option α} {k k' : α → Option R} (h : OLe m m') (hk : ∀ x, OLe (k x) (k' x)) : OLe (Tc.bnd m k) (Tc.bnd m' k') := by
 intro r hr
 obtain ⟨x, h1, h2⟩ := bnd_some hr
 rw [h x h1, bnd_some_eq]
 exact hk x r h2
theorem OLe.cond {R : Type} (b : Bool) {x x' y y' : Option R} (h1 : OLe x x') (h2 : OLe y y') : OLe (cond b x y) (cond b x' y') := by
 cases b
 ·exact h2
 ·exact h1
theorem OLe.elim {S R T : Type} (o : Out S R) {f f' : S → Option T} {g g' : R → Option T} (h1 : ∀ s, OLe (f s) (f' s)) (h2 : ∀ s, OLe (g s) (g' s)) : OLe (Out.elim f g o) (Out.elim f' g' o) := by
 cases o
 ·exact h1 _
 ·exact h2 _
theorem iterN_le {S X : Type} {b b' : S → Option (S ⊕ X)} (h : ∀ s, OLe (b s) (b' s)) : ∀ (k : Nat) (s : S) (x : X), iterN b k s = some x → iterN b' k s = some x
 | 0, _, _, hk => by simp [iterN] at hk
 | k + 1, s, x, hk => by
  simp only [iterN] at hk ⊢
  cases hb : b s with
  | none => rw [hb] at hk; cases hk
  | some q =>
   rw [hb] at hk
   rw [h s q hb]
   cases q with
   | inl s' => exact iterN_le h k s' x hk
   | inr y => exact hk
theorem OLe.run {S X : Type} {b b' : S → Option (S ⊕ X)} {s : S} (h : ∀ s, OLe (b s) (b' s)) : OLe (Tc.run b s) (Tc.run b' s) := by
 intro x hx
 obtain ⟨k, hk⟩ := run_iff.1 hx
 exact run_iff.2 ⟨k, iterN_le h k s x hk⟩
theorem Mono.of {α R : Type} {step : (α → Option R) → α → Option R} (h : ∀ f g : α → Option R, (∀ a, OLe (f a) (g a)) → ∀ a, OLe (step f a) (step g a)) : Mono step := fun f g hfg a => h f g hfg a
end Go.Fn
