/-
  The plain law of CountTilings: both searches are one. No program in sight. No condition.
-/
import Derived.Test.YtabpcmbohmodnaaPTiling
import Derived.Test.YtabpcmbohmodnaaLaw
namespace Go.Fn
open Go Go.Tc
/-! ### More of a callee -/
def OLe {R : Type} (f g : Option R) : Prop := ∀ r, f = some r → g = some r
theorem OLe.refl {R : Type} (f : Option R) : OLe f f := fun _ h => h
theorem OLe.bnd {α R : Type} {m m' : Option α} {k k' : α → Option R} (h : OLe m m') (hk : ∀ x, OLe (k x) (k' x)) : OLe (Tc.bnd m k) (Tc.bnd m' k') := by
  intro r hr
  obtain ⟨x, h1, h2⟩ := bnd_some hr
  rw [h x h1, bnd_some_eq]
  exact hk x r h2
theorem OLe.cond {R : Type} (b : Bool) {x x' y y' : Option R} (h1 : OLe x x') (h2 : OLe y y') : OLe (cond b x y) (cond b x' y') := by
  cases b
  · exact h2
  · exact h1
theorem OLe.elim {S R T : Type} (o : Out S R) {f f' : S → Option T} {g g' : R → Option T} (h1 : ∀ s, OLe (f s) (f' s)) (h2 : ∀ s, OLe (g s) (g' s)) : OLe (Out.elim f g o) (Out.elim f' g' o) := by
  cases o
  · exact h1 _
  · exact h2 _
theorem iterN_le {S X : Type} {b b' : S → Option (S ⊕ X)} (h : ∀ s, OLe (b s) (b' s)) : ∀ (k : Nat) (s : S) (x : X), iterN b k s = some x → iterN b' k s = some x
  | 0, _, _, hk => by simp [iterN] at hk
  | k + 1, s, x, hk => by
    simp only [iterN] at hk ⊢
    cases hb : b s with
    | none => rw [hb] at hk; cases hk
    | some q =>
      rw [hb] at hk
      rw [h s q hb]
      cases q with
      | inl s' => exact iterN_le h k s' x hk
      | inr y => exact hk
theorem OLe.run {S X : Type} {b b' : S → Option (S ⊕ X)} {s : S} (h : ∀ s, OLe (b s) (b' s)) : OLe (Tc.run b s) (Tc.run b' s) := by
  intro x hx
  obtain ⟨k, hk⟩ := run_iff.1 hx
  exact run_iff.2 ⟨k, iterN_le h k s x hk⟩
theorem Mono.of {α R : Type} {step : (α → Option R) → α → Option R} (h : ∀ f g : α → Option R, (∀ a, OLe (f a) (g a)) → ∀ a, OLe (step f a) (step g a)) : Mono step := fun f g hfg a => h f g hfg a

/-! ### The search -/
def lastT (bs tl : List Int) : Bool := decide (tl.length % bs.length + 1 = bs.length)
def lp (fit : Nat → Bool) (B : Nat) (g : Nat → Nat × Int → Bool × Nat × Int) : Nat → Nat → Nat × Int → Bool × Nat × Int
  | 0, _, st => (false, st)
  | n + 1, i, st => if fit i = true then (if st.1 = B then (true, st) else if (g i (st.1 + 1, st.2)).1 = true then g i (st.1 + 1, st.2) else lp fit B g n (i + 1) (g i (st.1 + 1, st.2)).2) else lp fit B g n (i + 1) st
theorem lp_le {fit : Nat → Bool} {B : Nat} {g : Nat → Nat × Int → Bool × Nat × Int} (hg : ∀ i st, st.1 ≤ B → (g i st).2.1 ≤ B) : ∀ (n i : Nat) (st : Nat × Int), st.1 ≤ B → (lp fit B g n i st).2.1 ≤ B
  | 0, _, st, h => h
  | n + 1, i, st, h => by
    unfold lp
    split
    · split
      · exact h
      · rename_i h1
        split
        · exact hg i _ (by show st.1 + 1 ≤ B; omega)
        · exact lp_le hg n (i + 1) _ (hg i _ (by show st.1 + 1 ≤ B; omega))
    · exact lp_le hg n (i + 1) st h
theorem nz_sm {b : Int} (h : b ≠ 0) : nz b = some () := by unfold nz; rw [if_neg h]
theorem tmodN (a b : Nat) : Int.tmod (a : Int) (b : Int) = ((a % b : Nat) : Int) := by
  rw [Int.tmod_eq_emod_of_nonneg (by omega)]
  omega
theorem decN (a b : Nat) : decide ((a : Int) < (b : Int)) = decide (a < b) := by rw [decide_eq_decide]; omega

/-! ### The reference's -/
def GoodS (res : Bool × Nat × Int) (tl : List Int) (r : Bool × (Int × Int × Bool × List Int)) : Prop := r.1 = res.1 ∧ r.2.1 = (res.2.1 : Int) ∧ r.2.2.1 = res.2.2 ∧ r.2.2.2.1 = res.1 ∧ (res.1 = false → r.2.2.2.2 = tl)
def GoodI (N B : Nat) (res : Bool × Nat × Int) (tl : List Int) (r : (Bool × Bool) × (List Int × Int × Int)) : Prop := r.1.1 = !res.1 ∧ r.1.2 = !res.1 ∧ r.2.1.length = N ∧ r.2.1.take tl.length = tl ∧ r.2.2.1 = (B : Int) - (res.2.1 : Int) ∧ r.2.2.2 = res.2.2
theorem take_set {P tl : List Int} {i : Int} (h : P.take tl.length = tl) (hl : tl.length < P.length) : (P.set tl.length i).take (tl ++ [i]).length = tl ++ [i] := by
  rw [List.length_append, List.length_singleton, List.take_add_one, List.take_set_of_le (Nat.le_refl _), h, List.getElem?_set_self hl]
  rfl
theorem take_get {P tl : List Int} (h : P.take tl.length = tl) {k : Nat} (hk : k < tl.length) : idx P (k : Int) = some tl[k] := by
  have hl : tl.length ≤ P.length := by
    have := congrArg List.length h
    rw [List.length_take] at this
    omega
  rw [idx_nat (by omega)]
  have : tl[k] = (P.take tl.length)[k]'(by rw [List.length_take]; omega) := by simp only [h]
  rw [this, List.getElem_take]
theorem inB_iff0 {x lo hi : Int} : inB x lo hi = true ↔ lo ≤ x ∧ x ≤ hi := by simp [inB]
end Go.Fn
