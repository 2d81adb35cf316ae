/-
  The plain law of CountTilings: both searches are one. No program in sight. No condition.
-/
import Derived.Test.YtdgekmdolhfomaaPTiling
import Derived.Test.YtdgekmdolhfomaaLaw
namespace Go.Fn
open Go Go.Tc
/-! ### More of a callee -/
def OLe {R : Type} (f g : Option R) : Prop := ∀ r, f = some r → g = some r
theorem OLe.refl {R : Type} (f : Option R) : OLe f f := fun _ h => h
theorem OLe.bnd {α R : Type} {m m' : Option α} {k k' : α → Option R} (h : OLe m m') (hk : ∀ x, OLe (k x) (k' x)) : OLe (Tc.bnd m k) (Tc.bnd m' k') := by
  intro r hr
  obtain ⟨x, h1, h2⟩ := bnd_some hr
  rw [h x h1, bnd_some_eq]
  exact hk x r h2
theorem OLe.cond {R : Type} (b : Bool) {x x' y y' : Option R} (h1 : OLe x x') (h2 : OLe y y') : OLe (cond b x y) (cond b x' y') := by
  cases b
  · exact h2
  · exact h1
theorem OLe.elim {S R T : Type} (o : Out S R) {f f' : S → Option T} {g g' : R → Option T} (h1 : ∀ s, OLe (f s) (f' s)) (h2 : ∀ s, OLe (g s) (g' s)) : OLe (Out.elim f g o) (Out.elim f' g' o) := by
  cases o
  · exact h1 _
  · exact h2 _
theorem iterN_le {S X : Type} {b b' : S → Option (S ⊕ X)} (h : ∀ s, OLe (b s) (b' s)) : ∀ (k : Nat) (s : S) (x : X), iterN b k s = some x → iterN b' k s = some x
  | 0, _, _, hk => by simp [iterN] at hk
  | k + 1, s, x, hk => by
    simp only [iterN] at hk ⊢
    cases hb : b s with
    | none => rw [hb] at hk; cases hk
    | some q =>
      rw [hb] at hk
      rw [h s q hb]
      cases q with
      | inl s' => exact iterN_le h k s' x hk
      | inr y => exact hk
theorem OLe.run {S X : Type} {b b' : S → Option (S ⊕ X)} {s : S} (h : ∀ s, OLe (b s) (b' s)) : OLe (Tc.run b s) (Tc.run b' s) := by
  intro x hx
  obtain ⟨k, hk⟩ := run_iff.1 hx
  exact run_iff.2 ⟨k, iterN_le h k s x hk⟩
theorem Mono.of {α R : Type} {step : (α → Option R) → α → Option R} (h : ∀ f g : α → Option R, (∀ a, OLe (f a) (g a)) → ∀ a, OLe (step f a) (step g a)) : Mono step := fun f g hfg a => h f g hfg a

/-! ### The search -/
def zT : GTile := ⟨0, 0, 0, 0⟩
def tAt (ts : List GTile) (x : Int) : GTile := ts.getD x.toNat zT
def leftT (ts : List GTile) (bs tl : List Int) : Int := if 0 < tl.length % bs.length then (tAt ts (tl.getD (tl.length - 1) 0)).Right else 0
def underT (ts : List GTile) (bs tl : List Int) : Int := if bs.length ≤ tl.length then (tAt ts (tl.getD (tl.length - bs.length) 0)).Top else bs.getD (tl.length % bs.length) 0
def lastT (bs tl : List Int) : Bool := decide (tl.length % bs.length + 1 = bs.length)
def fitB (ts : List GTile) (bs tl : List Int) (i : Nat) : Bool := decide ((ts.getD i zT).Left = leftT ts bs tl) && decide ((ts.getD i zT).Bottom = underT ts bs tl) && (!lastT bs tl || decide ((ts.getD i zT).Right = 0))
def lp (fit : Nat → Bool) (B : Nat) (g : Nat → Nat × Int → Bool × Nat × Int) : Nat → Nat → Nat × Int → Bool × Nat × Int
  | 0, _, st => (false, st)
  | n + 1, i, st => if fit i = true then (if st.1 = B then (true, st) else if (g i (st.1 + 1, st.2)).1 = true then g i (st.1 + 1, st.2) else lp fit B g n (i + 1) (g i (st.1 + 1, st.2)).2) else lp fit B g n (i + 1) st
def srchT (ts : List GTile) (bs : List Int) (B : Nat) : Nat → List Int → Nat × Int → Bool × Nat × Int
  | 0, _, st => (false, st.1, w64 (st.2 + 1))
  | n + 1, tl, st => lp (fitB ts bs tl) B (fun i st => srchT ts bs B n (tl ++ [(i : Int)]) st) ts.length 0 st
theorem lp_le {fit : Nat → Bool} {B : Nat} {g : Nat → Nat × Int → Bool × Nat × Int} (hg : ∀ i st, st.1 ≤ B → (g i st).2.1 ≤ B) : ∀ (n i : Nat) (st : Nat × Int), st.1 ≤ B → (lp fit B g n i st).2.1 ≤ B
  | 0, _, st, h => h
  | n + 1, i, st, h => by
    unfold lp
    split
    · split
      · exact h
      · rename_i h1
        split
        · exact hg i _ (by show st.1 + 1 ≤ B; omega)
        · exact lp_le hg n (i + 1) _ (hg i _ (by show st.1 + 1 ≤ B; omega))
    · exact lp_le hg n (i + 1) st h
theorem srchT_le {ts : List GTile} {bs : List Int} {B : Nat} : ∀ (n : Nat) (tl : List Int) (st : Nat × Int), st.1 ≤ B → (srchT ts bs B n tl st).2.1 ≤ B
  | 0, _, st, h => h
  | n + 1, tl, st, h => lp_le (fun i st h => srchT_le n _ st h) _ _ st h
def ValT (ts : List GTile) (tl : List Int) : Prop := ∀ x ∈ tl, 0 ≤ x ∧ x < (ts.length : Int)
theorem ValT.add {ts : List GTile} {tl : List Int} (h : ValT ts tl) {i : Nat} (hi : i < ts.length) : ValT ts (tl ++ [(i : Int)]) := by
  intro x hx
  rcases List.mem_append.1 hx with hx | hx
  · exact h x hx
  · simp at hx
    subst hx
    exact ⟨by omega, by omega⟩
theorem ValT.at {ts : List GTile} {tl : List Int} (h : ValT ts tl) {k : Nat} (hk : k < tl.length) : idx ts tl[k] = some (tAt ts (tl.getD k 0)) := by
  obtain ⟨h0, h1⟩ := h _ (List.getElem_mem hk)
  have e : tl[k] = ((tl[k].toNat : Nat) : Int) := by omega
  have hlt : tl[k].toNat < ts.length := by omega
  rw [e, idx_nat hlt]
  unfold tAt
  rw [List.getD_eq_getElem?_getD (l := tl), List.getElem?_eq_getElem hk, Option.getD_some, List.getD_eq_getElem?_getD, List.getElem?_eq_getElem hlt]
  rfl
theorem nz_sm {b : Int} (h : b ≠ 0) : nz b = some () := by unfold nz; rw [if_neg h]
theorem tmodN (a b : Nat) : Int.tmod (a : Int) (b : Int) = ((a % b : Nat) : Int) := by
  rw [Int.tmod_eq_emod_of_nonneg (by omega)]
  omega
theorem decN (a b : Nat) : decide ((a : Int) < (b : Int)) = decide (a < b) := by rw [decide_eq_decide]; omega

/-! ### The reference's -/
noncomputable abbrev stpS := (fun (rec_ : Gl33Search → Option ((Bool) × (Int × Int × Bool × (List Int)))) (a_ : Gl33Search) => F_spec_l33Search_fill_step (fun p0 => rec_ p0) a_)
theorem mono_S : Mono stpS := by
  refine Mono.of fun f g h a => ?_
  show OLe (F_spec_l33Search_fill_step _ _) (F_spec_l33Search_fill_step _ _)
  unfold F_spec_l33Search_fill_step F_spec_l33Search_fill_L1
  repeat' first | with_reducible exact OLe.refl _ | with_reducible exact h _ | with_reducible refine OLe.cond _ ?_ ?_ | with_reducible refine OLe.bnd ?_ (fun _ => ?_) | with_reducible refine OLe.elim _ (fun _ => ?_) (fun _ => ?_) | with_reducible refine OLe.run (fun _ => ?_)
def GoodS (res : Bool × Nat × Int) (tl : List Int) (r : Bool × (Int × Int × Bool × List Int)) : Prop := r.1 = res.1 ∧ r.2.1 = (res.2.1 : Int) ∧ r.2.2.1 = res.2.2 ∧ r.2.2.2.1 = res.1 ∧ (res.1 = false → r.2.2.2.2 = tl)
theorem spec_cntL {ts : List GTile} {bs tl : List Int} {N B : Nat} (hts : ts.length ≤ 300) (hbl : 0 < bs.length) (hb30 : bs.length ≤ 30) (hB : B ≤ 20000) (htl : tl.length < 2000) (s0 : Int) (c0 : Int)
    {rec_ : Gl33Search → Option (Bool × (Int × Int × Bool × List Int))} {g : Nat → Nat × Int → Bool × Nat × Int} (hgl : ∀ i st, st.1 ≤ B → (g i st).2.1 ≤ B)
    (hrec : ∀ i, i < ts.length → ∀ (s : Nat) (c : Int), s ≤ B → ∃ r, rec_ ⟨ts, bs, (N : Int), (B : Int), true, (s : Int), c, false, tl ++ [(i : Int)]⟩ = some r ∧ GoodS (g i (s, c)) (tl ++ [(i : Int)]) r) :
    ∀ (m i : Nat) (st : Nat × Int), i + m = ts.length → st.1 ≤ B →
      ∃ x, run (F_spec_l33Search_fill_L1 ⟨ts, bs, (N : Int), (B : Int), true, s0, c0, false, tl⟩ rec_ (leftT ts bs tl) (underT ts bs tl)) ((st.1 : Int), st.2, false, tl, (i : Int)) = some x ∧
        match (lp (fitB ts bs tl) B g m i st).1 with
        | false => x = .brk (((lp (fitB ts bs tl) B g m i st).2.1 : Int), (lp (fitB ts bs tl) B g m i st).2.2, false, tl, (ts.length : Int))
        | true => ∃ r, x = .ret r ∧ GoodS (lp (fitB ts bs tl) B g m i st) tl r := by
  intro m
  induction m with
  | zero =>
    intro i st hi hs
    have : i = ts.length := by omega
    subst this
    refine ⟨.brk ((st.1 : Int), st.2, false, tl, (ts.length : Int)), run_done ?_, rfl⟩
    simp only [F_spec_l33Search_fill_L1]
    rw [decide_eq_false (by omega), cond_false]
  | succ m ih =>
    intro i st hi hs
    have hlt : i < ts.length := by omega
    have hnz : (bs.length : Int) ≠ 0 := by omega
    have hget : ts[i] = ts.getD i zT := by rw [List.getD_eq_getElem?_getD, List.getElem?_eq_getElem hlt]; rfl
    have hnx : w64 ((i : Int) + 1) = ((i + 1 : Nat) : Int) := w64_nat1 (by omega)
    have hl : (decide (Int.tmod (tl.length : Int) (bs.length : Int) = w64 ((bs.length : Int) - 1))) = lastT bs tl := by
      rw [tmodN, w64_in (by omega) (by omega)]
      unfold lastT
      rw [decide_eq_decide]
      omega
    have hbody : F_spec_l33Search_fill_L1 ⟨ts, bs, (N : Int), (B : Int), true, s0, c0, false, tl⟩ rec_ (leftT ts bs tl) (underT ts bs tl) ((st.1 : Int), st.2, false, tl, (i : Int)) =
        (cond (fitB ts bs tl i) (cond (decide ((st.1 : Int) = (B : Int))) (some (.inr (.ret (true, ((st.1 : Int), st.2, true, tl)))))
          (bnd (rec_ ⟨ts, bs, (N : Int), (B : Int), true, ((st.1 + 1 : Nat) : Int), st.2, false, tl ++ [(i : Int)]⟩) fun r69 => cond r69.1 (some (.inr (.ret (true, (r69.2.1, r69.2.2.1, r69.2.2.2.1, r69.2.2.2.2))))) (bnd (slc r69.2.2.2.2 0 (tl.length : Int)) fun z73 => some (.inl (r69.2.1, r69.2.2.1, r69.2.2.2.1, z73, ((i + 1 : Nat) : Int))))))
          (some (.inl ((st.1 : Int), st.2, false, tl, ((i + 1 : Nat) : Int))))) := by
      simp only [F_spec_l33Search_fill_L1]
      rw [decN, decide_eq_true hlt, cond_true, idx_nat hlt, bnd_some_eq, hget, hl, hnx, nz_sm hnz, w64_nat1 (by omega : st.1 < 4611686018427387904), app_ok (by simp; omega)]
      simp only [bnd_some_eq]
      unfold fitB
      by_cases h1 : (ts.getD i zT).Left = leftT ts bs tl
      · rw [decide_eq_false (by simpa using h1 : ¬ (ts.getD i zT).Left ≠ leftT ts bs tl), cond_false, decide_eq_true h1, Bool.true_and]
        by_cases h2 : (ts.getD i zT).Bottom = underT ts bs tl
        · rw [decide_eq_false (by simpa using h2 : ¬ (ts.getD i zT).Bottom ≠ underT ts bs tl), cond_false, decide_eq_true h2, Bool.true_and]
          cases lastT bs tl
          · simp only [cond_false, bnd_some_eq, Out.elim, Bool.not_false, Bool.true_or, cond_true]
          · simp only [cond_true, bnd_some_eq, Out.elim, Bool.not_true, Bool.false_or]
            by_cases h3 : (ts.getD i zT).Right = 0
            · rw [decide_eq_false (by simpa using h3 : ¬ (ts.getD i zT).Right ≠ 0), decide_eq_true h3, cond_false, cond_true]
            · rw [decide_eq_true (show (ts.getD i zT).Right ≠ 0 from h3), decide_eq_false h3, cond_true, cond_false]
        · rw [decide_eq_true (show (ts.getD i zT).Bottom ≠ underT ts bs tl from h2), cond_true, decide_eq_false h2, Bool.false_and, cond_false, bnd_some_eq]
          rfl
      · rw [decide_eq_true (show (ts.getD i zT).Left ≠ leftT ts bs tl from h1), cond_true, decide_eq_false h1, Bool.false_and, Bool.false_and, cond_false, bnd_some_eq]
        rfl
    cases hf : fitB ts bs tl i with
    | false =>
      rw [hf, cond_false] at hbody
      rw [run_next hbody]
      have := ih (i + 1) st (by omega) hs
      simpa only [lp, hf, Bool.false_eq_true, if_false] using this
    | true =>
      rw [hf, cond_true] at hbody
      by_cases hsB : st.1 = B
      · rw [decide_eq_true (by omega), cond_true] at hbody
        refine ⟨_, run_done hbody, ?_⟩
        simp only [lp, hf, if_true, if_pos hsB]
        exact ⟨_, rfl, rfl, rfl, rfl, rfl, fun h => by cases h⟩
      · rw [decide_eq_false (by omega), cond_false] at hbody
        obtain ⟨r, hr, h1, h2, h3, h4, h5⟩ := hrec i hlt (st.1 + 1) st.2 (by omega)
        rw [hr, bnd_some_eq] at hbody
        cases hg : (g i (st.1 + 1, st.2)).1 with
        | true =>
          rw [h1, hg, cond_true] at hbody
          refine ⟨_, run_done hbody, ?_⟩
          simp only [lp, hf, if_true, if_neg hsB, hg]
          exact ⟨_, rfl, hg.symm, h2, h3, h4, fun h => by rw [hg] at h; cases h⟩
        | false =>
          rw [h1, hg, cond_false, h5 hg] at hbody
          have hsl : slc (tl ++ [(i : Int)]) 0 (tl.length : Int) = some tl := by
            have := slc_ok (xs := tl ++ [(i : Int)]) (lo := 0) (hi := tl.length) (by omega) (by simp)
            rw [show ((0 : Nat) : Int) = 0 from rfl] at this
            rw [this]
            simp
          rw [hsl, bnd_some_eq, h2, h3, h4, hg] at hbody
          rw [run_next hbody]
          have := ih (i + 1) (g i (st.1 + 1, st.2)).2 (by omega) (hgl _ _ (by show st.1 + 1 ≤ B; omega))
          simpa only [lp, hf, if_true, if_neg hsB, hg, Bool.false_eq_true, if_false] using this
def GoodI (N B : Nat) (res : Bool × Nat × Int) (tl : List Int) (r : (Bool × Bool) × (List Int × Int × Int)) : Prop := r.1.1 = !res.1 ∧ r.1.2 = !res.1 ∧ r.2.1.length = N ∧ r.2.1.take tl.length = tl ∧ r.2.2.1 = (B : Int) - (res.2.1 : Int) ∧ r.2.2.2 = res.2.2
theorem take_set {P tl : List Int} {i : Int} (h : P.take tl.length = tl) (hl : tl.length < P.length) : (P.set tl.length i).take (tl ++ [i]).length = tl ++ [i] := by
  rw [List.length_append, List.length_singleton, List.take_add_one, List.take_set_of_le (Nat.le_refl _), h, List.getElem?_set_self hl]
  rfl
theorem take_get {P tl : List Int} (h : P.take tl.length = tl) {k : Nat} (hk : k < tl.length) : idx P (k : Int) = some tl[k] := by
  have hl : tl.length ≤ P.length := by
    have := congrArg List.length h
    rw [List.length_take] at this
    omega
  rw [idx_nat (by omega)]
  have : tl[k] = (P.take tl.length)[k]'(by rw [List.length_take]; omega) := by simp only [h]
  rw [this, List.getElem_take]
theorem spec_ask (ts : List GTile) (bs : List Int) (h b : Int) (s0 : ts.length ≤ 1048576) (s1 : bs.length ≤ 1048576) : F_spec_l33Ask ts bs h b = some (if validT ts = true then (if frameB bs && inB h 1 40 && inB b 1 20000 then 0 else 2) else 1) := by
  unfold F_spec_l33Ask F_spec_l05Budget
  rw [show F_spec_l33Is ts = some (validT ts) from spec_is ts s0, bnd_some_eq]
  cases validT ts
  · rfl
  simp only [Bool.not_true, cond_false, if_true]
  rw [spec_frame bs s1, bnd_some_eq, spec_in, spec_in]
  cases frameB bs
  · rfl
  cases inB h 1 40
  · rfl
  cases inB b 1 20000 <;> rfl
theorem inB_iff0 {x lo hi : Int} : inB x lo hi = true ↔ lo ≤ x ∧ x ≤ hi := by simp [inB]
end Go.Fn
