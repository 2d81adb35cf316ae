/-
  The calculus, further: loops and cuts; 'run', the plain function that a loop computes. No condition.
-/
import Derived.Test.YtfklpjdenigohaaIdx
import Derived.Deep.LoopGhost
namespace Go.Tc
open Go Go.RowKit

/-- How a piece of code is left: it goes on with a state, or the function returns. -/
inductive Out (S R : Type) where
  | brk (s : S)
  | ret (r : R)

def iterN {S X : Type} (body : S → Option (S ⊕ X)) : Nat → S → Option X
  | 0, _ => none
  | k + 1, s => match body s with
    | none => none
    | some (.inl s') => iterN body k s'
    | some (.inr x) => some x
theorem iterN_mono {S X : Type} {body : S → Option (S ⊕ X)} : ∀ {k m : Nat} {s : S} {x : X}, k ≤ m → iterN body k s = some x → iterN body m s = some x
  | 0, _, _, _, _, h => by simp [iterN] at h
  | k + 1, 0, _, _, hk, _ => by omega
  | k + 1, m + 1, s, x, hk, h => by
    simp only [iterN] at h ⊢
    split
    · rename_i hb; simp [hb] at h
    · rename_i s' hb
      simp only [hb] at h
      exact iterN_mono (by omega) h
    · rename_i y hb
      simpa [hb] using h
open Classical in
/-- What a loop computes. -/
noncomputable def run {S X : Type} (body : S → Option (S ⊕ X)) (s : S) : Option X :=
  if h : ∃ x k, iterN body k s = some x then some h.choose else none
theorem run_iff {S X : Type} {body : S → Option (S ⊕ X)} {s : S} {x : X} : run body s = some x ↔ ∃ k, iterN body k s = some x := by
  constructor
  · intro h
    unfold run at h
    split at h
    · rename_i hx
      simp at h
      rw [← h]
      exact hx.choose_spec
    · simp at h
  · rintro ⟨k, hk⟩
    unfold run
    rw [dif_pos ⟨x, k, hk⟩]
    have hex : ∃ x k, iterN body k s = some x := ⟨x, k, hk⟩
    obtain ⟨m, hm⟩ := hex.choose_spec
    have h1 := iterN_mono (Nat.le_max_left k m) hk
    have h2 := iterN_mono (Nat.le_max_right k m) hm
    rw [h1] at h2
    exact h2.symm
theorem run_unfold {S X : Type} (body : S → Option (S ⊕ X)) (s : S) : run body s = match body s with | none => none | some (.inl s') => run body s' | some (.inr x) => some x := by
  cases hb : body s with
  | none =>
    cases hr : run body s with
    | none => rfl
    | some x =>
      obtain ⟨k, hk⟩ := run_iff.1 hr
      cases k <;> simp [iterN, hb] at hk
  | some y =>
    cases y with
    | inl s' =>
      simp only
      cases hr : run body s' with
      | none =>
        cases hr2 : run body s with
        | none => rfl
        | some x =>
          obtain ⟨k, hk⟩ := run_iff.1 hr2
          cases k with
          | zero => simp [iterN] at hk
          | succ k =>
            simp only [iterN, hb] at hk
            rw [run_iff.2 ⟨k, hk⟩] at hr
            simp at hr
      | some x =>
        obtain ⟨k, hk⟩ := run_iff.1 hr
        exact run_iff.2 ⟨k + 1, by simpa [iterN, hb] using hk⟩
    | inr x => exact run_iff.2 ⟨1, by simp [iterN, hb]⟩

section
variable {R R0 S S' G G' : Type} {P : Program} {n : Nat} {A : Nat → Prop} {w0 : World} {Q : R → Exit → Act → World → Prop} {ρ ρ' : Env} {Γ Γ' : Ctx} {E : Option R}

/-- The post of a round. -/
def QRound (n : Nat) (A : Nat → Prop) (w0 : World) (id : Nat) (Q : R → Exit → Act → World → Prop) (ρs : S → G → Env) (Γs : S → G → Ctx) (ρe : S' → G' → Env) (Γe : S' → G' → Ctx) (K : Out S' R0 → Option R) : S ⊕ Out S' R0 → Exit → Act → World → Prop
  | .inl s, e, a, w => e = .normal ∧ ∃ g, Sat n (ρs s g) a ∧ SH A w0 w (Γs s g)
  | .inr (.brk s), e, a, w => e = .exit id ∧ ∃ g, Sat n (ρe s g) a ∧ SH A w0 w (Γe s g)
  | .inr (.ret r), e, a, w => e = .ret ∧ ∀ r', K (.ret r) = some r' → Q r' e a w

theorem J_loop {c : Code} {id : Nat} (body : S → Option (S ⊕ Out S' R0)) (ρs : S → G → Env) (Γs : S → G → Ctx) (ρe : S' → G' → Env) (Γe : S' → G' → Ctx) (K : Out S' R0 → Option R) (s0 : S) (g0 : G)
    (hround : ∀ s g, J P n A w0 c (QRound n A w0 id Q ρs Γs ρe Γe K) (ρs s g) (Γs s g) (body s))
    (hafter : ∀ s g, N n A w0 Q .normal (ρe s g) (Γe s g) (K (.brk s))) :
    J P n A w0 (.block id (.loop c)) Q (ρs s0 g0) (Γs s0 g0) (bnd (run body s0) K) := by
  intro r hr a w hs hh
  obtain ⟨x, hx, hK⟩ := bnd_some hr
  obtain ⟨k, hk⟩ := run_iff.1 hx
  refine wp_block ?_
  refine wp_loop_ghost (fun m a' w' => ∃ s g, iterN body m s = some x ∧ Sat n (ρs s g) a' ∧ SH A w0 w' (Γs s g)) k ⟨s0, g0, hk, hs, hh⟩ ?_
  rintro m a' w' ⟨s, g, hm, hs', hh'⟩
  cases m with
  | zero => simp [iterN] at hm
  | succ m =>
    simp only [iterN] at hm
    cases hb : body s with
    | none => simp [hb] at hm
    | some y =>
      refine Code.wp_mono ?_ (hround s g y hb a' w' hs' hh')
      intro e a2 w2 hq
      cases y with
      | inl s2 =>
        obtain ⟨rfl, g2, h1, h2⟩ := hq
        simp only [hb] at hm
        exact ⟨m, Nat.lt_succ_self _, s2, g2, hm, h1, h2⟩
      | inr y =>
        simp only [hb, Option.some.injEq] at hm
        subst hm
        cases y with
        | brk s2 =>
          obtain ⟨rfl, g2, h1, h2⟩ := hq
          have := hafter s2 g2 r hK a2 w2 h1 h2
          simpa [Exit.then, Exit.inBlock] using this
        | ret r0 =>
          obtain ⟨rfl, h1⟩ := hq
          exact h1 r hK

/-- The round's ends. -/
theorem N_next {id : Nat} {ρs : S → G → Env} {Γs : S → G → Ctx} {ρe : S' → G' → Env} {Γe : S' → G' → Ctx} {K : Out S' R0 → Option R} {s : S} (g : G) (hρ : SubE (ρs s g) ρ) (m : List Bool) (hΓ : keep m Γ = Γs s g) :
    N n A w0 (QRound n A w0 id Q ρs Γs ρe Γe K) .normal ρ Γ (some (.inl s)) := by
  intro x hx a w hs hh
  cases hx
  exact ⟨rfl, g, hs.sub hρ, hΓ ▸ hh.keep m⟩
theorem N_break {id : Nat} {ρs : S → G → Env} {Γs : S → G → Ctx} {ρe : S' → G' → Env} {Γe : S' → G' → Ctx} {K : Out S' R0 → Option R} {s : S'} (g : G') (hρ : SubE (ρe s g) ρ) (m : List Bool) (hΓ : keep m Γ = Γe s g) :
    N n A w0 (QRound n A w0 id Q ρs Γs ρe Γe K) (.exit id) ρ Γ (some (.inr (.brk s))) := by
  intro x hx a w hs hh
  cases hx
  exact ⟨rfl, g, hs.sub hρ, hΓ ▸ hh.keep m⟩
theorem N_round_ret {id : Nat} {ρs : S → G → Env} {Γs : S → G → Ctx} {ρe : S' → G' → Env} {Γe : S' → G' → Ctx} {K : Out S' R0 → Option R} {r0 : R0} (h : N n A w0 Q .ret ρ Γ (K (.ret r0))) :
    N n A w0 (QRound n A w0 id Q ρs Γs ρe Γe K) .ret ρ Γ (some (.inr (.ret r0))) := by
  intro x hx a w hs hh
  cases hx
  exact ⟨rfl, fun r' hr' => h r' hr' a w hs hh⟩

/-- The post of a piece whose ways meet again. -/
def QMid (n : Nat) (A : Nat → Prop) (w0 : World) (Q : R → Exit → Act → World → Prop) (ρe : S' → G' → Env) (Γe : S' → G' → Ctx) (K : Out S' R0 → Option R) : Out S' R0 → Exit → Act → World → Prop
  | .brk s, e, a, w => e = .normal ∧ ∃ g, Sat n (ρe s g) a ∧ SH A w0 w (Γe s g)
  | .ret r, e, a, w => e = .ret ∧ ∀ r', K (.ret r) = some r' → Q r' e a w
theorem J_cut {c : Code} {Ex : Option (Out S' R0)} (ρe : S' → G' → Env) (Γe : S' → G' → Ctx) (K : Out S' R0 → Option R)
    (h : J P n A w0 c (QMid n A w0 Q ρe Γe K) ρ Γ Ex) (hafter : ∀ s g, N n A w0 Q .normal (ρe s g) (Γe s g) (K (.brk s))) : J P n A w0 c Q ρ Γ (bnd Ex K) := by
  intro r hr a w hs hh
  obtain ⟨x, hx, hK⟩ := bnd_some hr
  refine Code.wp_mono ?_ (h x hx a w hs hh)
  intro e a2 w2 hq
  cases x with
  | brk s2 =>
    obtain ⟨rfl, g2, h1, h2⟩ := hq
    exact hafter s2 g2 r hK a2 w2 h1 h2
  | ret r0 =>
    obtain ⟨rfl, h1⟩ := hq
    exact h1 r hK
theorem N_meet {ρe : S' → G' → Env} {Γe : S' → G' → Ctx} {K : Out S' R0 → Option R} {s : S'} (g : G') (hρ : SubE (ρe s g) ρ) (m : List Bool) (hΓ : keep m Γ = Γe s g) :
    N n A w0 (QMid n A w0 Q ρe Γe K) .normal ρ Γ (some (.brk s)) := by
  intro x hx a w hs hh
  cases hx
  exact ⟨rfl, g, hs.sub hρ, hΓ ▸ hh.keep m⟩
theorem N_mid_ret {ρe : S' → G' → Env} {Γe : S' → G' → Ctx} {K : Out S' R0 → Option R} {r0 : R0} (h : N n A w0 Q .ret ρ Γ (K (.ret r0))) :
    N n A w0 (QMid n A w0 Q ρe Γe K) .ret ρ Γ (some (.ret r0)) := by
  intro x hx a w hs hh
  cases hx
  exact ⟨rfl, fun r' hr' => h r' hr' a w hs hh⟩
end
end Go.Tc
