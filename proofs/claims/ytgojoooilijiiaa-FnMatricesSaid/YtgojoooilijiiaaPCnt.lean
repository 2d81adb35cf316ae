/-
  The plain law of CountTilings: both searches are one. No program in sight. No condition.
-/
import Derived.Test.YtgojoooilijiiaaPTiling
import Derived.Test.YtgojoooilijiiaaLaw
namespace Go.Fn
open Go Go.Tc
/-! ### More of a callee -/
def OLe {R : Type} (f g : Option R) : Prop := ∀ r, f = some r → g = some r
theorem OLe.refl {R : Type} (f : Option R) : OLe f f := fun _ h => h
theorem OLe.bnd {α R : Type} {m m' : Option α} {k k' : α → Option R} (h : OLe m m') (hk : ∀ x, OLe (k x) (k' x)) : OLe (Tc.bnd m k) (Tc.bnd m' k') := by
  intro r hr
  obtain ⟨x, h1, h2⟩ := bnd_some hr
  rw [h x h1, bnd_some_eq]
  exact hk x r h2
theorem OLe.cond {R : Type} (b : Bool) {x x' y y' : Option R} (h1 : OLe x x') (h2 : OLe y y') : OLe (cond b x y) (cond b x' y') := by
  cases b
  · exact h2
  · exact h1
theorem OLe.elim {S R T : Type} (o : Out S R) {f f' : S → Option T} {g g' : R → Option T} (h1 : ∀ s, OLe (f s) (f' s)) (h2 : ∀ s, OLe (g s) (g' s)) : OLe (Out.elim f g o) (Out.elim f' g' o) := by
  cases o
  · exact h1 _
  · exact h2 _
theorem iterN_le {S X : Type} {b b' : S → Option (S ⊕ X)} (h : ∀ s, OLe (b s) (b' s)) : ∀ (k : Nat) (s : S) (x : X), iterN b k s = some x → iterN b' k s = some x
  | 0, _, _, hk => by simp [iterN] at hk
  | k + 1, s, x, hk => by
    simp only [iterN] at hk ⊢
    cases hb : b s with
    | none => rw [hb] at hk; cases hk
    | some q =>
      rw [hb] at hk
      rw [h s q hb]
      cases q with
      | inl s' => exact iterN_le h k s' x hk
      | inr y => exact hk
theorem OLe.run {S X : Type} {b b' : S → Option (S ⊕ X)} {s : S} (h : ∀ s, OLe (b s) (b' s)) : OLe (Tc.run b s) (Tc.run b' s) := by
  intro x hx
  obtain ⟨k, hk⟩ := run_iff.1 hx
  exact run_iff.2 ⟨k, iterN_le h k s x hk⟩
theorem Mono.of {α R : Type} {step : (α → Option R) → α → Option R} (h : ∀ f g : α → Option R, (∀ a, OLe (f a) (g a)) → ∀ a, OLe (step f a) (step g a)) : Mono step := fun f g hfg a => h f g hfg a

/-! ### The search -/
def zT : GTile := ⟨0, 0, 0, 0⟩
def tAt (ts : List GTile) (x : Int) : GTile := ts.getD x.toNat zT
def ValT (ts : List GTile) (tl : List Int) : Prop := ∀ x ∈ tl, 0 ≤ x ∧ x < (ts.length : Int)
theorem ValT.add {ts : List GTile} {tl : List Int} (h : ValT ts tl) {i : Nat} (hi : i < ts.length) : ValT ts (tl ++ [(i : Int)]) := by
  intro x hx
  rcases List.mem_append.1 hx with hx | hx
  · exact h x hx
  · simp at hx
    subst hx
    exact ⟨by omega, by omega⟩
theorem ValT.at {ts : List GTile} {tl : List Int} (h : ValT ts tl) {k : Nat} (hk : k < tl.length) : idx ts tl[k] = some (tAt ts (tl.getD k 0)) := by
  obtain ⟨h0, h1⟩ := h _ (List.getElem_mem hk)
  have e : tl[k] = ((tl[k].toNat : Nat) : Int) := by omega
  have hlt : tl[k].toNat < ts.length := by omega
  rw [e, idx_nat hlt]
  unfold tAt
  rw [List.getD_eq_getElem?_getD (l := tl), List.getElem?_eq_getElem hk, Option.getD_some, List.getD_eq_getElem?_getD, List.getElem?_eq_getElem hlt]
  rfl
theorem take_set {P tl : List Int} {i : Int} (h : P.take tl.length = tl) (hl : tl.length < P.length) : (P.set tl.length i).take (tl ++ [i]).length = tl ++ [i] := by
  rw [List.length_append, List.length_singleton, List.take_add_one, List.take_set_of_le (Nat.le_refl _), h, List.getElem?_set_self hl]
  rfl
end Go.Fn
