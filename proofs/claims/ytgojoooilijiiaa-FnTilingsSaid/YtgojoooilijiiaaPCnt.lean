/-
  The plain law of CountTilings: both searches are one. No program in sight. No condition.
-/
import Derived.Test.YtgojoooilijiiaaPTiling
import Derived.Test.YtgojoooilijiiaaLaw
namespace Go.Fn
open Go Go.Tc
/-! ### More of a callee -/
def OLe {R : Type} (f g : Option R) : Prop := ∀ r, f = some r → g = some r
theorem OLe.refl {R : Type} (f : Option R) : OLe f f := fun _ h => h
theorem OLe.bnd {α R : Type} {m m' : Option α} {k k' : α → Option R} (h : OLe m m') (hk : ∀ x, OLe (k x) (k' x)) : OLe (Tc.bnd m k) (Tc.bnd m' k') := by
  intro r hr
  obtain ⟨x, h1, h2⟩ := bnd_some hr
  rw [h x h1, bnd_some_eq]
  exact hk x r h2
theorem OLe.cond {R : Type} (b : Bool) {x x' y y' : Option R} (h1 : OLe x x') (h2 : OLe y y') : OLe (cond b x y) (cond b x' y') := by
  cases b
  · exact h2
  · exact h1
theorem OLe.elim {S R T : Type} (o : Out S R) {f f' : S → Option T} {g g' : R → Option T} (h1 : ∀ s, OLe (f s) (f' s)) (h2 : ∀ s, OLe (g s) (g' s)) : OLe (Out.elim f g o) (Out.elim f' g' o) := by
  cases o
  · exact h1 _
  · exact h2 _
theorem iterN_le {S X : Type} {b b' : S → Option (S ⊕ X)} (h : ∀ s, OLe (b s) (b' s)) : ∀ (k : Nat) (s : S) (x : X), iterN b k s = some x → iterN b' k s = some x
  | 0, _, _, hk => by simp [iterN] at hk
  | k + 1, s, x, hk => by
    simp only [iterN] at hk ⊢
    cases hb : b s with
    | none => rw [hb] at hk; cases hk
    | some q =>
      rw [hb] at hk
      rw [h s q hb]
      cases q with
      | inl s' => exact iterN_le h k s' x hk
      | inr y => exact hk
theorem OLe.run {S X : Type} {b b' : S → Option (S ⊕ X)} {s : S} (h : ∀ s, OLe (b s) (b' s)) : OLe (Tc.run b s) (Tc.run b' s) := by
  intro x hx
  obtain ⟨k, hk⟩ := run_iff.1 hx
  exact run_iff.2 ⟨k, iterN_le h k s x hk⟩
theorem Mono.of {α R : Type} {step : (α → Option R) → α → Option R} (h : ∀ f g : α → Option R, (∀ a, OLe (f a) (g a)) → ∀ a, OLe (step f a) (step g a)) : Mono step := fun f g hfg a => h f g hfg a

/-! ### The search -/
def zT : GTile := ⟨0, 0, 0, 0⟩
def tAt (ts : List GTile) (x : Int) : GTile := ts.getD x.toNat zT
def leftT (ts : List GTile) (bs tl : List Int) : Int := if 0 < tl.length % bs.length then (tAt ts (tl.getD (tl.length - 1) 0)).Right else 0
def underT (ts : List GTile) (bs tl : List Int) : Int := if bs.length ≤ tl.length then (tAt ts (tl.getD (tl.length - bs.length) 0)).Top else bs.getD (tl.length % bs.length) 0
def lastT (bs tl : List Int) : Bool := decide (tl.length % bs.length + 1 = bs.length)
def fitB (ts : List GTile) (bs tl : List Int) (i : Nat) : Bool := decide ((ts.getD i zT).Left = leftT ts bs tl) && decide ((ts.getD i zT).Bottom = underT ts bs tl) && (!lastT bs tl || decide ((ts.getD i zT).Right = 0))
def lp (fit : Nat → Bool) (B : Nat) (g : Nat → Nat × Int → Bool × Nat × Int) : Nat → Nat → Nat × Int → Bool × Nat × Int
  | 0, _, st => (false, st)
  | n + 1, i, st => if fit i = true then (if st.1 = B then (true, st) else if (g i (st.1 + 1, st.2)).1 = true then g i (st.1 + 1, st.2) else lp fit B g n (i + 1) (g i (st.1 + 1, st.2)).2) else lp fit B g n (i + 1) st
def srchT (ts : List GTile) (bs : List Int) (B : Nat) : Nat → List Int → Nat × Int → Bool × Nat × Int
  | 0, _, st => (false, st.1, w64 (st.2 + 1))
  | n + 1, tl, st => lp (fitB ts bs tl) B (fun i st => srchT ts bs B n (tl ++ [(i : Int)]) st) ts.length 0 st
theorem lp_le {fit : Nat → Bool} {B : Nat} {g : Nat → Nat × Int → Bool × Nat × Int} (hg : ∀ i st, st.1 ≤ B → (g i st).2.1 ≤ B) : ∀ (n i : Nat) (st : Nat × Int), st.1 ≤ B → (lp fit B g n i st).2.1 ≤ B
  | 0, _, st, h => h
  | n + 1, i, st, h => by
    unfold lp
    split
    · split
      · exact h
      · rename_i h1
        split
        · exact hg i _ (by show st.1 + 1 ≤ B; omega)
        · exact lp_le hg n (i + 1) _ (hg i _ (by show st.1 + 1 ≤ B; omega))
    · exact lp_le hg n (i + 1) st h
theorem srchT_le {ts : List GTile} {bs : List Int} {B : Nat} : ∀ (n : Nat) (tl : List Int) (st : Nat × Int), st.1 ≤ B → (srchT ts bs B n tl st).2.1 ≤ B
  | 0, _, st, h => h
  | n + 1, tl, st, h => lp_le (fun i st h => srchT_le n _ st h) _ _ st h
def ValT (ts : List GTile) (tl : List Int) : Prop := ∀ x ∈ tl, 0 ≤ x ∧ x < (ts.length : Int)
theorem ValT.add {ts : List GTile} {tl : List Int} (h : ValT ts tl) {i : Nat} (hi : i < ts.length) : ValT ts (tl ++ [(i : Int)]) := by
  intro x hx
  rcases List.mem_append.1 hx with hx | hx
  · exact h x hx
  · simp at hx
    subst hx
    exact ⟨by omega, by omega⟩
theorem ValT.at {ts : List GTile} {tl : List Int} (h : ValT ts tl) {k : Nat} (hk : k < tl.length) : idx ts tl[k] = some (tAt ts (tl.getD k 0)) := by
  obtain ⟨h0, h1⟩ := h _ (List.getElem_mem hk)
  have e : tl[k] = ((tl[k].toNat : Nat) : Int) := by omega
  have hlt : tl[k].toNat < ts.length := by omega
  rw [e, idx_nat hlt]
  unfold tAt
  rw [List.getD_eq_getElem?_getD (l := tl), List.getElem?_eq_getElem hk, Option.getD_some, List.getD_eq_getElem?_getD, List.getElem?_eq_getElem hlt]
  rfl
theorem nz_sm {b : Int} (h : b ≠ 0) : nz b = some () := by unfold nz; rw [if_neg h]
theorem tmodN (a b : Nat) : Int.tmod (a : Int) (b : Int) = ((a % b : Nat) : Int) := by
  rw [Int.tmod_eq_emod_of_nonneg (by omega)]
  omega
theorem decN (a b : Nat) : decide ((a : Int) < (b : Int)) = decide (a < b) := by rw [decide_eq_decide]; omega

/-! ### The reference's -/
noncomputable abbrev stpI := (fun (rec_ : (Gtiler × Int × Int) → Option ((Bool × Bool) × ((List Int) × Int × Int))) (a_ : Gtiler × Int × Int) => F_impl_tiler_fill_impl_CountTilings_1_step (fun p0 p1 p3 => rec_ (p0, p1, p3)) a_.1 a_.2.1 a_.2.2)
theorem mono_I : Mono stpI := by
  refine Mono.of fun f g h a => ?_
  show OLe (F_impl_tiler_fill_impl_CountTilings_1_step _ _ _ _) (F_impl_tiler_fill_impl_CountTilings_1_step _ _ _ _)
  unfold F_impl_tiler_fill_impl_CountTilings_1_step F_impl_tiler_fill_impl_CountTilings_1_L1
  repeat' first | with_reducible exact OLe.refl _ | with_reducible exact h _ | with_reducible refine OLe.cond _ ?_ ?_ | with_reducible refine OLe.bnd ?_ (fun _ => ?_) | with_reducible refine OLe.elim _ (fun _ => ?_) (fun _ => ?_) | with_reducible refine OLe.run (fun _ => ?_)
def GoodI (N B : Nat) (res : Bool × Nat × Int) (tl : List Int) (r : (Bool × Bool) × (List Int × Int × Int)) : Prop := r.1.1 = !res.1 ∧ r.1.2 = !res.1 ∧ r.2.1.length = N ∧ r.2.1.take tl.length = tl ∧ r.2.2.1 = (B : Int) - (res.2.1 : Int) ∧ r.2.2.2 = res.2.2
theorem take_set {P tl : List Int} {i : Int} (h : P.take tl.length = tl) (hl : tl.length < P.length) : (P.set tl.length i).take (tl ++ [i]).length = tl ++ [i] := by
  rw [List.length_append, List.length_singleton, List.take_add_one, List.take_set_of_le (Nat.le_refl _), h, List.getElem?_set_self hl]
  rfl
theorem take_get {P tl : List Int} (h : P.take tl.length = tl) {k : Nat} (hk : k < tl.length) : idx P (k : Int) = some tl[k] := by
  have hl : tl.length ≤ P.length := by
    have := congrArg List.length h
    rw [List.length_take] at this
    omega
  rw [idx_nat (by omega)]
  have : tl[k] = (P.take tl.length)[k]'(by rw [List.length_take]; omega) := by simp only [h]
  rw [this, List.getElem_take]
theorem impl_cntL {ts : List GTile} {bs tl : List Int} {N B : Nat} (hts : ts.length ≤ 300) (hbl : 0 < bs.length) (hb30 : bs.length ≤ 30) (hB : B ≤ 20000) (hN : N ≤ 1200) (htl : tl.length < N) (P0 : List Int) (l0 : Int)
    {rec_ : Gtiler → Int → Int → Option ((Bool × Bool) × ((List Int) × Int × Int))} {g : Nat → Nat × Int → Bool × Nat × Int} (hgl : ∀ i st, st.1 ≤ B → (g i st).2.1 ≤ B)
    (hrec : ∀ i, i < ts.length → ∀ (P : List Int) (s : Nat) (c : Int), s ≤ B → P.length = N → P.take (tl ++ [(i : Int)]).length = tl ++ [(i : Int)] → ∃ r, rec_ ⟨ts, bs, P, (B : Int) - (s : Int)⟩ ((tl.length + 1 : Nat) : Int) c = some r ∧ GoodI N B (g i (s, c)) (tl ++ [(i : Int)]) r) :
    ∀ (m i : Nat) (P : List Int) (st : Nat × Int), i + m = ts.length → st.1 ≤ B → P.length = N → P.take tl.length = tl →
      ∃ x, run (F_impl_tiler_fill_impl_CountTilings_1_L1 ⟨ts, bs, P0, l0⟩ (tl.length : Int) rec_ (leftT ts bs tl) (underT ts bs tl)) (P, (B : Int) - (st.1 : Int), st.2, (i : Int)) = some x ∧
        match (lp (fitB ts bs tl) B g m i st).1 with
        | false => ∃ P', P'.length = N ∧ P'.take tl.length = tl ∧ x = .brk (P', (B : Int) - ((lp (fitB ts bs tl) B g m i st).2.1 : Int), (lp (fitB ts bs tl) B g m i st).2.2, (ts.length : Int))
        | true => ∃ r, x = .ret r ∧ GoodI N B (lp (fitB ts bs tl) B g m i st) tl r := by
  intro m
  induction m with
  | zero =>
    intro i P st hi hs hP ht
    have : i = ts.length := by omega
    subst this
    refine ⟨.brk (P, (B : Int) - (st.1 : Int), st.2, (ts.length : Int)), run_done ?_, ⟨P, hP, ht, rfl⟩⟩
    simp only [F_impl_tiler_fill_impl_CountTilings_1_L1]
    rw [decide_eq_false (by omega), cond_false]
  | succ m ih =>
    intro i P st hi hs hP ht
    have hlt : i < ts.length := by omega
    have hnz : (bs.length : Int) ≠ 0 := by omega
    have hget : ts[i] = ts.getD i zT := by rw [List.getD_eq_getElem?_getD, List.getElem?_eq_getElem hlt]; rfl
    have hnx : w64 ((i : Int) + 1) = ((i + 1 : Nat) : Int) := w64_nat1 (by omega)
    have hl : (decide (Int.tmod (tl.length : Int) (bs.length : Int) = w64 ((bs.length : Int) - 1))) = lastT bs tl := by
      rw [tmodN, w64_in (by omega) (by omega)]
      unfold lastT
      rw [decide_eq_decide]
      omega
    have hbody : F_impl_tiler_fill_impl_CountTilings_1_L1 ⟨ts, bs, P0, l0⟩ (tl.length : Int) rec_ (leftT ts bs tl) (underT ts bs tl) (P, (B : Int) - (st.1 : Int), st.2, (i : Int)) =
        (cond (!fitB ts bs tl i) (some (.inl (P, (B : Int) - (st.1 : Int), st.2, ((i + 1 : Nat) : Int)))) (cond (decide ((B : Int) - (st.1 : Int) = 0)) (some (.inr (.ret ((false, false), (P, (B : Int) - (st.1 : Int), st.2)))))
          (bnd (rec_ ⟨ts, bs, P.set tl.length (i : Int), w64 ((B : Int) - (st.1 : Int) - 1)⟩ ((tl.length + 1 : Nat) : Int) st.2) fun r70 => cond (!r70.1.1) (some (.inr (.ret ((false, r70.1.2), (r70.2.1, r70.2.2.1, r70.2.2.2))))) (some (.inl (r70.2.1, r70.2.2.1, r70.2.2.2, ((i + 1 : Nat) : Int))))))) := by
      simp only [F_impl_tiler_fill_impl_CountTilings_1_L1]
      rw [decN, decide_eq_true hlt, cond_true, idx_nat hlt, bnd_some_eq, hget, hl, hnx, nz_sm hnz, bnd_some_eq, impl_fits, bnd_some_eq, idx_nat (by omega : tl.length < P.length), bnd_some_eq, w64_nat1 (by omega : tl.length < 4611686018427387904), Int.toNat_natCast]
      rfl
    cases hf : fitB ts bs tl i with
    | false =>
      rw [hf, Bool.not_false, cond_true] at hbody
      rw [run_next hbody]
      have := ih (i + 1) P st (by omega) hs hP ht
      simpa only [lp, hf, Bool.false_eq_true, if_false] using this
    | true =>
      rw [hf, Bool.not_true, cond_false] at hbody
      by_cases hsB : st.1 = B
      · rw [decide_eq_true (by omega), cond_true] at hbody
        refine ⟨_, run_done hbody, ?_⟩
        simp only [lp, hf, if_true, if_pos hsB]
        exact ⟨_, rfl, rfl, rfl, hP, ht, rfl, rfl⟩
      · rw [decide_eq_false (by omega), cond_false, w64_in (by omega) (by omega), show (B : Int) - (st.1 : Int) - 1 = (B : Int) - ((st.1 + 1 : Nat) : Int) by omega] at hbody
        obtain ⟨r, hr, h1, h2, h3, h4, h5, h6⟩ := hrec i hlt (P.set tl.length (i : Int)) (st.1 + 1) st.2 (by omega) (by simpa using hP) (take_set ht (by omega))
        rw [hr, bnd_some_eq] at hbody
        have h4' : r.2.1.take tl.length = tl := by
          have := congrArg (List.take tl.length) h4
          rw [List.take_take, Nat.min_eq_left (by simp), List.take_left] at this
          exact this
        cases hg : (g i (st.1 + 1, st.2)).1 with
        | true =>
          rw [h1, hg, Bool.not_true, Bool.not_false, cond_true] at hbody
          refine ⟨_, run_done hbody, ?_⟩
          simp only [lp, hf, if_true, if_neg hsB, hg]
          exact ⟨_, rfl, by rw [hg]; rfl, h2, h3, h4', h5, h6⟩
        | false =>
          rw [h1, hg, Bool.not_false, Bool.not_true, cond_false, h5, h6] at hbody
          rw [run_next hbody]
          have := ih (i + 1) r.2.1 (g i (st.1 + 1, st.2)).2 (by omega) (hgl _ _ (by show st.1 + 1 ≤ B; omega)) h3 h4'
          simpa only [lp, hf, if_true, if_neg hsB, hg, Bool.false_eq_true, if_false] using this
theorem impl_cnt {ts : List GTile} {bs : List Int} {N B : Nat} (hts : ts.length ≤ 300) (hbl : 0 < bs.length) (hb30 : bs.length ≤ 30) (hB : B ≤ 20000) (hN : N ≤ 1200) :
    ∀ (n : Nat) (tl P : List Int) (s : Nat) (c : Int), tl.length + n = N → ValT ts tl → s ≤ B → P.length = N → P.take tl.length = tl →
      ∃ r, fixN stpI (n + 1) (⟨ts, bs, P, (B : Int) - (s : Int)⟩, (tl.length : Int), c) = some r ∧ GoodI N B (srchT ts bs B n tl (s, c)) tl r := by
  intro n
  induction n with
  | zero =>
    intro tl P s c hn hv hs hP ht
    refine ⟨((true, true), (P, (B : Int) - (s : Int), w64 (c + 1))), ?_, rfl, rfl, hP, ht, rfl, rfl⟩
    show F_impl_tiler_fill_impl_CountTilings_1_step _ _ _ _ = _
    unfold F_impl_tiler_fill_impl_CountTilings_1_step
    simp only
    rw [decide_eq_true (by omega), cond_true]
  | succ n ih =>
    intro tl P s c hn hv hs hP ht
    have hnz : (bs.length : Int) ≠ 0 := by omega
    have hmod : tl.length % bs.length < bs.length := Nat.mod_lt _ hbl
    obtain ⟨x, hx, hm⟩ := impl_cntL hts hbl hb30 hB hN (by omega : tl.length < N) P ((B : Int) - (s : Int)) (rec_ := fun p0 p1 p3 => fixN stpI (n + 1) (p0, p1, p3)) (g := fun i st => srchT ts bs B n (tl ++ [(i : Int)]) st) (fun i st h => srchT_le n _ st h)
      (fun i hi P s c hs hP ht => by
        have := ih (tl ++ [(i : Int)]) P s c (by simp; omega) (hv.add hi) hs hP ht
        simpa using this) ts.length 0 P (s, c) (by omega) hs hP ht
    have hleft : (bnd (nz (bs.length : Int)) fun u4 => (cond (decide (0 < (Int.tmod (tl.length : Int) (bs.length : Int)))) (bnd (idx P (w64 ((tl.length : Int) - 1))) fun y7 => bnd (idx ts y7) fun y15 => some (.brk y15.Right)) (some (.brk 0))) : Option (Out (Int) ((Bool × Bool) × ((List Int) × Int × Int)))) = some (.brk (leftT ts bs tl)) := by
      rw [nz_sm hnz, bnd_some_eq, tmodN]
      unfold leftT
      by_cases h0 : 0 < tl.length % bs.length
      · have hpos : 0 < tl.length := by
          refine Nat.pos_of_ne_zero fun e => ?_
          rw [e] at h0
          simp at h0
        rw [decide_eq_true (by omega), cond_true, if_pos h0, w64_in (by omega) (by omega), show ((tl.length : Int) - 1) = ((tl.length - 1 : Nat) : Int) by omega, take_get ht (by omega), bnd_some_eq, hv.at (by omega), bnd_some_eq]
      · rw [decide_eq_false (by omega), cond_false, if_neg h0]
    have hunder : ((cond (decide ((bs.length : Int) ≤ (tl.length : Int))) (bnd (idx P (w64 ((tl.length : Int) - (bs.length : Int)))) fun y32 => bnd (idx ts y32) fun y40 => some (.brk y40.Top)) (some (.brk (bs[tl.length % bs.length]'hmod)))) : Option (Out (Int) ((Bool × Bool) × ((List Int) × Int × Int)))) = some (.brk (underT ts bs tl)) := by
      unfold underT
      by_cases h0 : bs.length ≤ tl.length
      · rw [decide_eq_true (by omega), cond_true, if_pos h0, w64_in (by omega) (by omega), show ((tl.length : Int) - (bs.length : Int)) = ((tl.length - bs.length : Nat) : Int) by omega, take_get ht (by omega), bnd_some_eq, hv.at (by omega), bnd_some_eq]
      · rw [decide_eq_false (by omega), cond_false, if_neg h0, List.getD_eq_getElem?_getD, List.getElem?_eq_getElem hmod]
        rfl
    have key : F_impl_tiler_fill_impl_CountTilings_1_step (fun p0 p1 p3 => fixN stpI (n + 1) (p0, p1, p3)) ⟨ts, bs, P, (B : Int) - (s : Int)⟩ (tl.length : Int) c = (bnd (some x) (Out.elim (fun (s49 : (List Int) × Int × Int × Int) => some ((true, true), (s49.1, s49.2.1, s49.2.2.1))) (fun (r : (Bool × Bool) × ((List Int) × Int × Int)) => some r))) := by
      unfold F_impl_tiler_fill_impl_CountTilings_1_step
      simp only
      rw [decide_eq_false (by omega), cond_false, nz_sm hnz, bnd_some_eq, tmodN, idx_nat hmod, bnd_some_eq, bnd_some_eq]
      have hleft' := hleft
      rw [nz_sm hnz, bnd_some_eq, tmodN] at hleft'
      rw [hleft', bnd_some_eq]
      simp only [Out.elim]
      rw [hunder, bnd_some_eq]
      simp only [Out.elim]
      exact congrArg (fun o => bnd o _) hx
    show ∃ r, F_impl_tiler_fill_impl_CountTilings_1_step (fun p0 p1 p3 => fixN stpI (n + 1) (p0, p1, p3)) _ _ _ = some r ∧ _
    rw [key, bnd_some_eq]
    unfold srchT
    split at hm
    · rename_i h1
      obtain ⟨P', h2, h3, rfl⟩ := hm
      exact ⟨_, rfl, by rw [h1]; rfl, by rw [h1]; rfl, h2, h3, rfl, rfl⟩
    · rename_i h1
      obtain ⟨r, rfl, hg⟩ := hm
      exact ⟨r, rfl, hg⟩

/-! ### Both -/
end Go.Fn
