/-
  The plain law of SolveTiling: both searches are one, and its rows are cut alike. No program in sight. No condition.
-/
import Derived.Test.YtdgekmdolhfomaaPCnt
namespace Go.Fn
open Go Go.Tc
/-! ### The search for one: 0 for none, 1 for want of steps, 2 for found -/
def lp2 (fit : Nat → Bool) (B : Nat) (g : Nat → Nat → Nat × Nat × List Int) : Nat → Nat → Nat → Nat × Nat × List Int
  | 0, _, s => (0, s, [])
  | n + 1, i, s => if fit i = true then (if s = B then (1, s, []) else if (g i (s + 1)).1 = 0 then lp2 fit B g n (i + 1) (g i (s + 1)).2.1 else g i (s + 1)) else lp2 fit B g n (i + 1) s
def srch2 (ts : List GTile) (bs : List Int) (B : Nat) : Nat → List Int → Nat → Nat × Nat × List Int
  | 0, tl, s => (2, s, tl)
  | n + 1, tl, s => lp2 (fitB ts bs tl) B (fun i s => srch2 ts bs B n (tl ++ [(i : Int)]) s) ts.length 0 s
theorem lp2_le {fit : Nat → Bool} {B : Nat} {g : Nat → Nat → Nat × Nat × List Int} (hg : ∀ i s, s ≤ B → (g i s).2.1 ≤ B) : ∀ (n i : Nat) (s : Nat), s ≤ B → (lp2 fit B g n i s).2.1 ≤ B
  | 0, _, _, h => h
  | n + 1, i, s, h => by
    unfold lp2
    split
    · split
      · exact h
      · rename_i h1
        split
        · exact lp2_le hg n (i + 1) _ (hg i _ (by omega))
        · exact hg i _ (by omega)
    · exact lp2_le hg n (i + 1) s h
theorem srch2_le {ts : List GTile} {bs : List Int} {B : Nat} : ∀ (n : Nat) (tl : List Int) (s : Nat), s ≤ B → (srch2 ts bs B n tl s).2.1 ≤ B
  | 0, _, _, h => h
  | n + 1, tl, s, h => lp2_le (fun i s h => srch2_le n _ s h) _ _ s h

/-! ### The reference's -/
def GoodS2 (res : Nat × Nat × List Int) (tl : List Int) (r : Bool × (Int × Int × Bool × List Int)) : Prop := r.1 = decide (res.1 ≠ 0) ∧ r.2.1 = (res.2.1 : Int) ∧ r.2.2.1 = (if res.1 = 2 then 1 else 0) ∧ r.2.2.2.1 = decide (res.1 = 1) ∧ (res.1 = 0 → r.2.2.2.2 = tl) ∧ (res.1 = 2 → r.2.2.2.2 = res.2.2)
theorem spec_solL {ts : List GTile} {bs tl : List Int} {N B : Nat} (hts : ts.length ≤ 300) (hbl : 0 < bs.length) (hb30 : bs.length ≤ 30) (hB : B ≤ 20000) (htl : tl.length < 2000) (s0 : Int)
    {rec_ : Gl33Search → Option (Bool × (Int × Int × Bool × List Int))} {g : Nat → Nat → Nat × Nat × List Int} (hgl : ∀ i s, s ≤ B → (g i s).2.1 ≤ B)
    (hrec : ∀ i, i < ts.length → ∀ (s : Nat), s ≤ B → ∃ r, rec_ ⟨ts, bs, (N : Int), (B : Int), false, (s : Int), 0, false, tl ++ [(i : Int)]⟩ = some r ∧ GoodS2 (g i s) (tl ++ [(i : Int)]) r) :
    ∀ (m i : Nat) (st : Nat), i + m = ts.length → st ≤ B →
      ∃ x, run (F_spec_l33Search_fill_L1 ⟨ts, bs, (N : Int), (B : Int), false, s0, 0, false, tl⟩ rec_ (leftT ts bs tl) (underT ts bs tl)) ((st : Int), 0, false, tl, (i : Int)) = some x ∧
        (if (lp2 (fitB ts bs tl) B g m i st).1 = 0 then x = .brk (((lp2 (fitB ts bs tl) B g m i st).2.1 : Int), 0, false, tl, (ts.length : Int))
        else ∃ r, x = .ret r ∧ GoodS2 (lp2 (fitB ts bs tl) B g m i st) tl r) := by
  intro m
  induction m with
  | zero =>
    intro i st hi hs
    have : i = ts.length := by omega
    subst this
    refine ⟨.brk ((st : Int), 0, false, tl, (ts.length : Int)), run_done ?_, ?_⟩
    · simp only [F_spec_l33Search_fill_L1]
      rw [decide_eq_false (by omega), cond_false]
    · show (if (0 : Nat) = 0 then _ else _)
      rw [if_pos rfl]
      rfl
  | succ m ih =>
    intro i st hi hs
    have hlt : i < ts.length := by omega
    have hnz : (bs.length : Int) ≠ 0 := by omega
    have hget : ts[i] = ts.getD i zT := by rw [List.getD_eq_getElem?_getD, List.getElem?_eq_getElem hlt]; rfl
    have hnx : w64 ((i : Int) + 1) = ((i + 1 : Nat) : Int) := w64_nat1 (by omega)
    have hl : (decide (Int.tmod (tl.length : Int) (bs.length : Int) = w64 ((bs.length : Int) - 1))) = lastT bs tl := by
      rw [tmodN, w64_in (by omega) (by omega)]
      unfold lastT
      rw [decide_eq_decide]
      omega
    have hbody : F_spec_l33Search_fill_L1 ⟨ts, bs, (N : Int), (B : Int), false, s0, 0, false, tl⟩ rec_ (leftT ts bs tl) (underT ts bs tl) ((st : Int), 0, false, tl, (i : Int)) =
        (cond (fitB ts bs tl i) (cond (decide ((st : Int) = (B : Int))) (some (.inr (.ret (true, ((st : Int), 0, true, tl)))))
          (bnd (rec_ ⟨ts, bs, (N : Int), (B : Int), false, ((st + 1 : Nat) : Int), 0, false, tl ++ [(i : Int)]⟩) fun r69 => cond r69.1 (some (.inr (.ret (true, (r69.2.1, r69.2.2.1, r69.2.2.2.1, r69.2.2.2.2))))) (bnd (slc r69.2.2.2.2 0 (tl.length : Int)) fun z73 => some (.inl (r69.2.1, r69.2.2.1, r69.2.2.2.1, z73, ((i + 1 : Nat) : Int))))))
          (some (.inl ((st : Int), 0, false, tl, ((i + 1 : Nat) : Int))))) := by
      simp only [F_spec_l33Search_fill_L1]
      rw [decN, decide_eq_true hlt, cond_true, idx_nat hlt, bnd_some_eq, hget, hl, hnx, nz_sm hnz, w64_nat1 (by omega : st < 4611686018427387904), app_ok (by simp; omega)]
      simp only [bnd_some_eq]
      unfold fitB
      by_cases h1 : (ts.getD i zT).Left = leftT ts bs tl
      · rw [decide_eq_false (by simpa using h1 : ¬ (ts.getD i zT).Left ≠ leftT ts bs tl), cond_false, decide_eq_true h1, Bool.true_and]
        by_cases h2 : (ts.getD i zT).Bottom = underT ts bs tl
        · rw [decide_eq_false (by simpa using h2 : ¬ (ts.getD i zT).Bottom ≠ underT ts bs tl), cond_false, decide_eq_true h2, Bool.true_and]
          cases lastT bs tl
          · simp only [cond_false, bnd_some_eq, Out.elim, Bool.not_false, Bool.true_or, cond_true]
          · simp only [cond_true, bnd_some_eq, Out.elim, Bool.not_true, Bool.false_or]
            by_cases h3 : (ts.getD i zT).Right = 0
            · rw [decide_eq_false (by simpa using h3 : ¬ (ts.getD i zT).Right ≠ 0), decide_eq_true h3, cond_false, cond_true]
            · rw [decide_eq_true (show (ts.getD i zT).Right ≠ 0 from h3), decide_eq_false h3, cond_true, cond_false]
        · rw [decide_eq_true (show (ts.getD i zT).Bottom ≠ underT ts bs tl from h2), cond_true, decide_eq_false h2, Bool.false_and, cond_false, bnd_some_eq]
          rfl
      · rw [decide_eq_true (show (ts.getD i zT).Left ≠ leftT ts bs tl from h1), cond_true, decide_eq_false h1, Bool.false_and, Bool.false_and, cond_false, bnd_some_eq]
        rfl
    cases hf : fitB ts bs tl i with
    | false =>
      rw [hf, cond_false] at hbody
      rw [run_next hbody]
      have := ih (i + 1) st (by omega) hs
      simpa only [lp2, hf, Bool.false_eq_true, if_false] using this
    | true =>
      rw [hf, cond_true] at hbody
      by_cases hsB : st = B
      · rw [decide_eq_true (by omega), cond_true] at hbody
        refine ⟨_, run_done hbody, ?_⟩
        simp only [lp2, hf, if_true, if_pos hsB]
        exact ⟨_, rfl, rfl, rfl, rfl, rfl, by simp, by simp⟩
      · rw [decide_eq_false (by omega), cond_false] at hbody
        obtain ⟨r, hr, h1, h2, h3, h4, h5, h6⟩ := hrec i hlt (st + 1) (by omega)
        rw [hr, bnd_some_eq] at hbody
        by_cases hg : (g i (st + 1)).1 = 0
        · rw [h1, decide_eq_false (by simpa using hg), cond_false, h5 hg] at hbody
          have hsl : slc (tl ++ [(i : Int)]) 0 (tl.length : Int) = some tl := by
            have := slc_ok (xs := tl ++ [(i : Int)]) (lo := 0) (hi := tl.length) (by omega) (by simp)
            rw [show ((0 : Nat) : Int) = 0 from rfl] at this
            rw [this]
            simp
          rw [hsl, bnd_some_eq, h2, h3, h4, hg, if_neg (by decide), decide_eq_false (by decide)] at hbody
          rw [run_next hbody]
          have := ih (i + 1) (g i (st + 1)).2.1 (by omega) (hgl _ _ (by omega))
          simpa only [lp2, hf, if_true, if_neg hsB, hg] using this
        · rw [h1, decide_eq_true (by simpa using hg), cond_true] at hbody
          refine ⟨_, run_done hbody, ?_⟩
          simp only [lp2, hf, if_true, if_neg hsB, if_neg hg]
          exact ⟨_, rfl, by rw [decide_eq_true (by simpa using hg)], h2, h3, h4, fun h => absurd h hg, h6⟩
theorem spec_sol {ts : List GTile} {bs : List Int} {N B : Nat} (hts : ts.length ≤ 300) (hbl : 0 < bs.length) (hb30 : bs.length ≤ 30) (hB : B ≤ 20000) (hN : N ≤ 1200) :
    ∀ (n : Nat) (tl : List Int) (s : Nat), tl.length + n = N → ValT ts tl → s ≤ B →
      ∃ r, fixN stpS (n + 1) ⟨ts, bs, (N : Int), (B : Int), false, (s : Int), 0, false, tl⟩ = some r ∧ GoodS2 (srch2 ts bs B n tl s) tl r := by
  intro n
  induction n with
  | zero =>
    intro tl s hn hv hs
    refine ⟨(true, ((s : Int), 1, false, tl)), ?_, rfl, rfl, rfl, rfl, by simp [srch2], fun _ => rfl⟩
    show F_spec_l33Search_fill_step _ _ = _
    unfold F_spec_l33Search_fill_step
    simp only
    rw [decide_eq_true (by omega), cond_true]
    rfl
  | succ n ih =>
    intro tl s hn hv hs
    have hnz : (bs.length : Int) ≠ 0 := by omega
    have hmod : tl.length % bs.length < bs.length := Nat.mod_lt _ hbl
    obtain ⟨x, hx, hm⟩ := spec_solL (N := N) hts hbl hb30 hB (by omega : tl.length < 2000) (s : Int) (rec_ := fun p0 => fixN stpS (n + 1) p0) (g := fun i st => srch2 ts bs B n (tl ++ [(i : Int)]) st) (fun i st h => srch2_le n _ st h)
      (fun i hi s hs => ih (tl ++ [(i : Int)]) s (by simp; omega) (hv.add hi) hs) ts.length 0 s (by omega) hs
    have hleft : (bnd (nz (bs.length : Int)) fun u4 => (cond (decide (0 < (Int.tmod (tl.length : Int) (bs.length : Int)))) (bnd (idx tl (w64 ((tl.length : Int) - 1))) fun y7 => bnd (idx ts y7) fun y15 => some (.brk y15.Right)) (some (.brk 0))) : Option (Out (Int) ((Bool) × (Int × Int × Bool × (List Int))))) = some (.brk (leftT ts bs tl)) := by
      rw [nz_sm hnz, bnd_some_eq, tmodN]
      unfold leftT
      by_cases h0 : 0 < tl.length % bs.length
      · have hpos : 0 < tl.length := by
          refine Nat.pos_of_ne_zero fun e => ?_
          rw [e] at h0
          simp at h0
        rw [decide_eq_true (by omega), cond_true, if_pos h0, w64_in (by omega) (by omega), show ((tl.length : Int) - 1) = ((tl.length - 1 : Nat) : Int) by omega, idx_nat (by omega), bnd_some_eq, hv.at (by omega), bnd_some_eq]
      · rw [decide_eq_false (by omega), cond_false, if_neg h0]
    have hunder : ((cond (decide ((bs.length : Int) ≤ (tl.length : Int))) (bnd (idx tl (w64 ((tl.length : Int) - (bs.length : Int)))) fun y32 => bnd (idx ts y32) fun y40 => some (.brk y40.Top)) (some (.brk (bs[tl.length % bs.length]'hmod)))) : Option (Out (Int) ((Bool) × (Int × Int × Bool × (List Int))))) = some (.brk (underT ts bs tl)) := by
      unfold underT
      by_cases h0 : bs.length ≤ tl.length
      · rw [decide_eq_true (by omega), cond_true, if_pos h0, w64_in (by omega) (by omega), show ((tl.length : Int) - (bs.length : Int)) = ((tl.length - bs.length : Nat) : Int) by omega, idx_nat (by omega), bnd_some_eq, hv.at (by omega), bnd_some_eq]
      · rw [decide_eq_false (by omega), cond_false, if_neg h0, List.getD_eq_getElem?_getD, List.getElem?_eq_getElem hmod]
        rfl
    have key : F_spec_l33Search_fill_step (fun p0 => fixN stpS (n + 1) p0) ⟨ts, bs, (N : Int), (B : Int), false, (s : Int), 0, false, tl⟩ = (bnd (some x) (Out.elim (fun (s48 : Int × Int × Bool × (List Int) × Int) => some (false, (s48.1, s48.2.1, s48.2.2.1, s48.2.2.2.1))) (fun (r : (Bool) × (Int × Int × Bool × (List Int))) => some r))) := by
      unfold F_spec_l33Search_fill_step
      simp only
      rw [decide_eq_false (by omega), cond_false, hleft, bnd_some_eq]
      simp only [Out.elim]
      rw [nz_sm hnz, bnd_some_eq, tmodN, idx_nat hmod, bnd_some_eq, hunder, bnd_some_eq]
      simp only [Out.elim]
      exact congrArg (fun o => bnd o _) hx
    show ∃ r, F_spec_l33Search_fill_step (fun p0 => fixN stpS (n + 1) p0) _ = some r ∧ _
    rw [key, bnd_some_eq]
    unfold srch2
    split at hm
    · rename_i h1
      subst hm
      exact ⟨_, rfl, by rw [h1]; rfl, rfl, by rw [h1]; rfl, by rw [h1]; rfl, fun _ => rfl, fun h => by rw [h1] at h; cases h⟩
    · rename_i h1
      obtain ⟨r, rfl, hg⟩ := hm
      exact ⟨r, rfl, hg⟩

/-! ### The program's -/
noncomputable abbrev stpV := (fun (rec_ : (Gtiler × Int × Bool) → Option ((Bool × Bool) × ((List Int) × Int × Bool))) (a_ : Gtiler × Int × Bool) => F_impl_tiler_fill_impl_SolveTiling_1_step (fun p0 p1 p3 => rec_ (p0, p1, p3)) a_.1 a_.2.1 a_.2.2)
theorem mono_V : Mono stpV := by
  refine Mono.of fun f g h a => ?_
  show OLe (F_impl_tiler_fill_impl_SolveTiling_1_step _ _ _ _) (F_impl_tiler_fill_impl_SolveTiling_1_step _ _ _ _)
  unfold F_impl_tiler_fill_impl_SolveTiling_1_step F_impl_tiler_fill_impl_SolveTiling_1_L1
  repeat' first | with_reducible exact OLe.refl _ | with_reducible exact h _ | with_reducible refine OLe.cond _ ?_ ?_ | with_reducible refine OLe.bnd ?_ (fun _ => ?_) | with_reducible refine OLe.elim _ (fun _ => ?_) (fun _ => ?_) | with_reducible refine OLe.run (fun _ => ?_)
def GoodV (N B : Nat) (res : Nat × Nat × List Int) (tl : List Int) (r : (Bool × Bool) × (List Int × Int × Bool)) : Prop := r.1.1 = decide (res.1 = 0) ∧ r.1.2 = decide (res.1 ≠ 1) ∧ r.2.1.length = N ∧ r.2.1.take tl.length = tl ∧ r.2.2.1 = (B : Int) - (res.2.1 : Int) ∧ r.2.2.2 = decide (res.1 = 2) ∧ (res.1 = 2 → r.2.1 = res.2.2)
theorem impl_solL {ts : List GTile} {bs tl : List Int} {N B : Nat} (hts : ts.length ≤ 300) (hbl : 0 < bs.length) (hb30 : bs.length ≤ 30) (hB : B ≤ 20000) (hN : N ≤ 1200) (htl : tl.length < N) (P0 : List Int) (l0 : Int)
    {rec_ : Gtiler → Int → Bool → Option ((Bool × Bool) × ((List Int) × Int × Bool))} {g : Nat → Nat → Nat × Nat × List Int} (hgl : ∀ i s, s ≤ B → (g i s).2.1 ≤ B)
    (hrec : ∀ i, i < ts.length → ∀ (P : List Int) (s : Nat), s ≤ B → P.length = N → P.take (tl ++ [(i : Int)]).length = tl ++ [(i : Int)] → ∃ r, rec_ ⟨ts, bs, P, (B : Int) - (s : Int)⟩ ((tl.length + 1 : Nat) : Int) false = some r ∧ GoodV N B (g i s) (tl ++ [(i : Int)]) r) :
    ∀ (m i : Nat) (P : List Int) (st : Nat), i + m = ts.length → st ≤ B → P.length = N → P.take tl.length = tl →
      ∃ x, run (F_impl_tiler_fill_impl_SolveTiling_1_L1 ⟨ts, bs, P0, l0⟩ (tl.length : Int) rec_ (leftT ts bs tl) (underT ts bs tl)) (P, (B : Int) - (st : Int), false, (i : Int)) = some x ∧
        (if (lp2 (fitB ts bs tl) B g m i st).1 = 0 then ∃ P', P'.length = N ∧ P'.take tl.length = tl ∧ x = .brk (P', (B : Int) - ((lp2 (fitB ts bs tl) B g m i st).2.1 : Int), false, (ts.length : Int))
        else ∃ r, x = .ret r ∧ GoodV N B (lp2 (fitB ts bs tl) B g m i st) tl r) := by
  intro m
  induction m with
  | zero =>
    intro i P st hi hs hP ht
    have : i = ts.length := by omega
    subst this
    refine ⟨.brk (P, (B : Int) - (st : Int), false, (ts.length : Int)), run_done ?_, ?_⟩
    · simp only [F_impl_tiler_fill_impl_SolveTiling_1_L1]
      rw [decide_eq_false (by omega), cond_false]
    · show (if (0 : Nat) = 0 then _ else _)
      rw [if_pos rfl]
      exact ⟨P, hP, ht, rfl⟩
  | succ m ih =>
    intro i P st hi hs hP ht
    have hlt : i < ts.length := by omega
    have hnz : (bs.length : Int) ≠ 0 := by omega
    have hget : ts[i] = ts.getD i zT := by rw [List.getD_eq_getElem?_getD, List.getElem?_eq_getElem hlt]; rfl
    have hnx : w64 ((i : Int) + 1) = ((i + 1 : Nat) : Int) := w64_nat1 (by omega)
    have hl : (decide (Int.tmod (tl.length : Int) (bs.length : Int) = w64 ((bs.length : Int) - 1))) = lastT bs tl := by
      rw [tmodN, w64_in (by omega) (by omega)]
      unfold lastT
      rw [decide_eq_decide]
      omega
    have hbody : F_impl_tiler_fill_impl_SolveTiling_1_L1 ⟨ts, bs, P0, l0⟩ (tl.length : Int) rec_ (leftT ts bs tl) (underT ts bs tl) (P, (B : Int) - (st : Int), false, (i : Int)) =
        (cond (!fitB ts bs tl i) (some (.inl (P, (B : Int) - (st : Int), false, ((i + 1 : Nat) : Int)))) (cond (decide ((B : Int) - (st : Int) = 0)) (some (.inr (.ret ((false, false), (P, (B : Int) - (st : Int), false)))))
          (bnd (rec_ ⟨ts, bs, P.set tl.length (i : Int), w64 ((B : Int) - (st : Int) - 1)⟩ ((tl.length + 1 : Nat) : Int) false) fun r70 => cond (!r70.1.1) (some (.inr (.ret ((false, r70.1.2), (r70.2.1, r70.2.2.1, r70.2.2.2))))) (some (.inl (r70.2.1, r70.2.2.1, r70.2.2.2, ((i + 1 : Nat) : Int))))))) := by
      simp only [F_impl_tiler_fill_impl_SolveTiling_1_L1]
      rw [decN, decide_eq_true hlt, cond_true, idx_nat hlt, bnd_some_eq, hget, hl, hnx, nz_sm hnz, bnd_some_eq, impl_fits, bnd_some_eq, idx_nat (by omega : tl.length < P.length), bnd_some_eq, w64_nat1 (by omega : tl.length < 4611686018427387904), Int.toNat_natCast]
      rfl
    cases hf : fitB ts bs tl i with
    | false =>
      rw [hf, Bool.not_false, cond_true] at hbody
      rw [run_next hbody]
      have := ih (i + 1) P st (by omega) hs hP ht
      simpa only [lp2, hf, Bool.false_eq_true, if_false] using this
    | true =>
      rw [hf, Bool.not_true, cond_false] at hbody
      by_cases hsB : st = B
      · rw [decide_eq_true (by omega), cond_true] at hbody
        refine ⟨_, run_done hbody, ?_⟩
        simp only [lp2, hf, if_true, if_pos hsB]
        exact ⟨_, rfl, rfl, rfl, hP, ht, rfl, rfl, fun h => by cases h⟩
      · rw [decide_eq_false (by omega), cond_false, w64_in (by omega) (by omega), show (B : Int) - (st : Int) - 1 = (B : Int) - ((st + 1 : Nat) : Int) by omega] at hbody
        obtain ⟨r, hr, h1, h2, h3, h4, h5, h6, h7⟩ := hrec i hlt (P.set tl.length (i : Int)) (st + 1) (by omega) (by simpa using hP) (take_set ht (by omega))
        rw [hr, bnd_some_eq] at hbody
        have h4' : r.2.1.take tl.length = tl := by
          have := congrArg (List.take tl.length) h4
          rw [List.take_take, Nat.min_eq_left (by simp), List.take_left] at this
          exact this
        by_cases hg : (g i (st + 1)).1 = 0
        · rw [h1, decide_eq_true hg, Bool.not_true, cond_false, h5, h6, hg, decide_eq_false (by decide)] at hbody
          rw [run_next hbody]
          have := ih (i + 1) r.2.1 (g i (st + 1)).2.1 (by omega) (hgl _ _ (by omega)) h3 h4'
          simpa only [lp2, hf, if_true, if_neg hsB, hg] using this
        · rw [h1, decide_eq_false hg, Bool.not_false, cond_true] at hbody
          refine ⟨_, run_done hbody, ?_⟩
          simp only [lp2, hf, if_true, if_neg hsB, if_neg hg]
          exact ⟨_, rfl, by rw [decide_eq_false hg], h2, h3, h4', h5, h6, h7⟩
theorem impl_sol {ts : List GTile} {bs : List Int} {N B : Nat} (hts : ts.length ≤ 300) (hbl : 0 < bs.length) (hb30 : bs.length ≤ 30) (hB : B ≤ 20000) (hN : N ≤ 1200) :
    ∀ (n : Nat) (tl P : List Int) (s : Nat), tl.length + n = N → ValT ts tl → s ≤ B → P.length = N → P.take tl.length = tl →
      ∃ r, fixN stpV (n + 1) (⟨ts, bs, P, (B : Int) - (s : Int)⟩, (tl.length : Int), false) = some r ∧ GoodV N B (srch2 ts bs B n tl s) tl r := by
  intro n
  induction n with
  | zero =>
    intro tl P s hn hv hs hP ht
    refine ⟨((false, true), (P, (B : Int) - (s : Int), true)), ?_, rfl, rfl, hP, ht, rfl, rfl, fun _ => ?_⟩
    rotate_left
    · show P = tl
      rw [← ht, List.take_of_length_le (by omega)]
    show F_impl_tiler_fill_impl_SolveTiling_1_step _ _ _ _ = _
    unfold F_impl_tiler_fill_impl_SolveTiling_1_step
    simp only
    rw [decide_eq_true (by omega), cond_true]
  | succ n ih =>
    intro tl P s hn hv hs hP ht
    have hnz : (bs.length : Int) ≠ 0 := by omega
    have hmod : tl.length % bs.length < bs.length := Nat.mod_lt _ hbl
    obtain ⟨x, hx, hm⟩ := impl_solL hts hbl hb30 hB hN (by omega : tl.length < N) P ((B : Int) - (s : Int)) (rec_ := fun p0 p1 p3 => fixN stpV (n + 1) (p0, p1, p3)) (g := fun i st => srch2 ts bs B n (tl ++ [(i : Int)]) st) (fun i st h => srch2_le n _ st h)
      (fun i hi P s hs hP ht => by
        have := ih (tl ++ [(i : Int)]) P s (by simp; omega) (hv.add hi) hs hP ht
        simpa using this) ts.length 0 P s (by omega) hs hP ht
    have hleft : (bnd (nz (bs.length : Int)) fun u4 => (cond (decide (0 < (Int.tmod (tl.length : Int) (bs.length : Int)))) (bnd (idx P (w64 ((tl.length : Int) - 1))) fun y7 => bnd (idx ts y7) fun y15 => some (.brk y15.Right)) (some (.brk 0))) : Option (Out (Int) ((Bool × Bool) × ((List Int) × Int × Bool)))) = some (.brk (leftT ts bs tl)) := by
      rw [nz_sm hnz, bnd_some_eq, tmodN]
      unfold leftT
      by_cases h0 : 0 < tl.length % bs.length
      · have hpos : 0 < tl.length := by
          refine Nat.pos_of_ne_zero fun e => ?_
          rw [e] at h0
          simp at h0
        rw [decide_eq_true (by omega), cond_true, if_pos h0, w64_in (by omega) (by omega), show ((tl.length : Int) - 1) = ((tl.length - 1 : Nat) : Int) by omega, take_get ht (by omega), bnd_some_eq, hv.at (by omega), bnd_some_eq]
      · rw [decide_eq_false (by omega), cond_false, if_neg h0]
    have hunder : ((cond (decide ((bs.length : Int) ≤ (tl.length : Int))) (bnd (idx P (w64 ((tl.length : Int) - (bs.length : Int)))) fun y32 => bnd (idx ts y32) fun y40 => some (.brk y40.Top)) (some (.brk (bs[tl.length % bs.length]'hmod)))) : Option (Out (Int) ((Bool × Bool) × ((List Int) × Int × Bool)))) = some (.brk (underT ts bs tl)) := by
      unfold underT
      by_cases h0 : bs.length ≤ tl.length
      · rw [decide_eq_true (by omega), cond_true, if_pos h0, w64_in (by omega) (by omega), show ((tl.length : Int) - (bs.length : Int)) = ((tl.length - bs.length : Nat) : Int) by omega, take_get ht (by omega), bnd_some_eq, hv.at (by omega), bnd_some_eq]
      · rw [decide_eq_false (by omega), cond_false, if_neg h0, List.getD_eq_getElem?_getD, List.getElem?_eq_getElem hmod]
        rfl
    have key : F_impl_tiler_fill_impl_SolveTiling_1_step (fun p0 p1 p3 => fixN stpV (n + 1) (p0, p1, p3)) ⟨ts, bs, P, (B : Int) - (s : Int)⟩ (tl.length : Int) false = (bnd (some x) (Out.elim (fun (s49 : (List Int) × Int × Bool × Int) => some ((true, true), (s49.1, s49.2.1, s49.2.2.1))) (fun (r : (Bool × Bool) × ((List Int) × Int × Bool)) => some r))) := by
      unfold F_impl_tiler_fill_impl_SolveTiling_1_step
      simp only
      rw [decide_eq_false (by omega), cond_false, nz_sm hnz, bnd_some_eq, tmodN, idx_nat hmod, bnd_some_eq, bnd_some_eq]
      have hleft' := hleft
      rw [nz_sm hnz, bnd_some_eq, tmodN] at hleft'
      rw [hleft', bnd_some_eq]
      simp only [Out.elim]
      rw [hunder, bnd_some_eq]
      simp only [Out.elim]
      exact congrArg (fun o => bnd o _) hx
    show ∃ r, F_impl_tiler_fill_impl_SolveTiling_1_step (fun p0 p1 p3 => fixN stpV (n + 1) (p0, p1, p3)) _ _ _ = some r ∧ _
    rw [key, bnd_some_eq]
    unfold srch2
    split at hm
    · rename_i h1
      obtain ⟨P', h2, h3, rfl⟩ := hm
      exact ⟨_, rfl, by rw [h1]; rfl, by rw [h1]; rfl, h2, h3, rfl, by rw [h1]; rfl, fun h => by rw [h1] at h; cases h⟩
    · rename_i h1
      obtain ⟨r, rfl, hg⟩ := hm
      exact ⟨r, rfl, hg⟩

/-! ### The rows -/
def cutR (w : Nat) (P : List Int) (n : Nat) : List (List Int) := (List.range n).map fun j => (P.take ((j + 1) * w)).drop (j * w)
theorem cutR_succ (w : Nat) (P : List Int) (n : Nat) : cutR w P (n + 1) = cutR w P n ++ [(P.take ((n + 1) * w)).drop (n * w)] := by
  unfold cutR
  rw [List.range_succ, List.map_append]
  rfl
theorem cutR_len (w : Nat) (P : List Int) (n : Nat) : (cutR w P n).length = n := by simp [cutR]
theorem spec_cut {bs P : List Int} {h : Nat} (hbs : 0 < bs.length) (hb30 : bs.length ≤ 30) (hh : h ≤ 40) (hP : P.length = bs.length * h) (r5 : Bool × (Int × Int × Bool × List Int)) (hr : r5.2.2.2.2 = P) :
    ∀ (m j : Nat), j + m = h → run (F_spec_SolveTiling_L1 bs r5) (cutR bs.length P j, ((j * bs.length : Nat) : Int)) = some (.brk (cutR bs.length P h, ((h * bs.length : Nat) : Int))) := by
  have hN : bs.length * h ≤ 1200 := Nat.le_trans (Nat.mul_le_mul hb30 hh) (by omega)
  intro m
  induction m with
  | zero =>
    intro j hj
    have : j = h := by omega
    subst this
    refine run_done ?_
    simp only [F_spec_SolveTiling_L1, hr]
    rw [Nat.mul_comm, hP, decide_eq_false (by omega), cond_false]
  | succ m ih =>
    intro j hj
    have hm : (j + 1) * bs.length ≤ h * bs.length := Nat.mul_le_mul_right _ (by omega)
    have hm1 : (j + 1) * bs.length = j * bs.length + bs.length := Nat.succ_mul _ _
    have hm2 : h * bs.length = bs.length * h := Nat.mul_comm _ _
    have hw : w64 (((j * bs.length : Nat) : Int) + (bs.length : Int)) = (((j + 1) * bs.length : Nat) : Int) := by
      rw [w64_in (by omega) (by omega)]
      omega
    have hb : F_spec_SolveTiling_L1 bs r5 (cutR bs.length P j, ((j * bs.length : Nat) : Int)) = some (.inl (cutR bs.length P (j + 1), (((j + 1) * bs.length : Nat) : Int))) := by
      simp only [F_spec_SolveTiling_L1, hr, F_spec_l00Own]
      rw [decide_eq_true (by omega), cond_true, hw, slc_ok (by omega) (by omega), bnd_some_eq, app_ok (by simp; omega), bnd_some_eq, bnd_some_eq, app_ok (by simp [cutR_len]; omega), bnd_some_eq, cutR_succ, List.nil_append]
    rw [run_next hb]
    exact ih (j + 1) (by omega)
theorem impl_cut {bs P : List Int} {h : Nat} (hbs : 0 < bs.length) (hb30 : bs.length ≤ 30) (hh : h ≤ 40) (hP : P.length = bs.length * h) (r21 : (Bool × Bool) × (List Int × Int × Bool)) (hr : r21.2.1 = P) :
    ∀ (m j : Nat), j + m = h → run (F_impl_SolveTiling_L1 bs r21) (((j * bs.length : Nat) : Int), cutR bs.length P j) = some (.brk (((h * bs.length : Nat) : Int), cutR bs.length P h)) := by
  have hN : bs.length * h ≤ 1200 := Nat.le_trans (Nat.mul_le_mul hb30 hh) (by omega)
  intro m
  induction m with
  | zero =>
    intro j hj
    have : j = h := by omega
    subst this
    refine run_done ?_
    simp only [F_impl_SolveTiling_L1, hr]
    rw [Nat.mul_comm, hP, decide_eq_false (by omega), cond_false]
  | succ m ih =>
    intro j hj
    have hm : (j + 1) * bs.length ≤ h * bs.length := Nat.mul_le_mul_right _ (by omega)
    have hm1 : (j + 1) * bs.length = j * bs.length + bs.length := Nat.succ_mul _ _
    have hm2 : h * bs.length = bs.length * h := Nat.mul_comm _ _
    have hw : w64 (((j * bs.length : Nat) : Int) + (bs.length : Int)) = (((j + 1) * bs.length : Nat) : Int) := by
      rw [w64_in (by omega) (by omega)]
      omega
    have hb : F_impl_SolveTiling_L1 bs r21 (((j * bs.length : Nat) : Int), cutR bs.length P j) = some (.inl ((((j + 1) * bs.length : Nat) : Int), cutR bs.length P (j + 1))) := by
      simp only [F_impl_SolveTiling_L1, hr, F_slices_Clone_Sint64_int64]
      rw [decide_eq_true (by omega), cond_true, slc_ok (by omega) (by omega), bnd_some_eq]
      rw [show (if (((List.drop (j * bs.length) (List.take P.length P)).length : Nat) : Int) < (bs.length : Int) then (((List.drop (j * bs.length) (List.take P.length P)).length : Nat) : Int) else (bs.length : Int)) = (bs.length : Int) by
        rw [List.length_drop, List.length_take]
        split <;> omega]
      rw [hw, slc_ok (by omega) (by omega), bnd_some_eq, app_ok (by simp; omega), bnd_some_eq, bnd_some_eq, app_ok (by simp [cutR_len]; omega), bnd_some_eq, cutR_succ, List.nil_append]
    rw [run_next hb]
    exact ih (j + 1) (by omega)

theorem tfit {xs : List (List Int)} (h1 : xs.length ≤ 1048576) (h2 : ∀ x ∈ xs, x.length ≤ 1048576) : Med xs ∧ Cnt.cnt xs ≤ 1152921504606846976 :=
  ⟨⟨by omega, fun x hx => ⟨by have := h2 x hx; omega, fun _ _ => trivial⟩⟩, Nat.le_trans (cnt_le (n := 1048576) (m := 1048576) h1 (fun x hx => by rw [cnt_ints]; exact h2 x hx)) (by decide)⟩
theorem cutR_fit {w h : Nat} (P : List Int) (hw : w ≤ 30) (hh : h ≤ 40) : Med (cutR w P h) ∧ Cnt.cnt (cutR w P h) ≤ 1152921504606846976 :=
  tfit (by rw [cutR_len]; omega) (fun x hx => by
    unfold cutR at hx
    obtain ⟨j, _, rfl⟩ := List.mem_map.1 hx
    have e : (j + 1) * w = j * w + w := Nat.succ_mul _ _
    rw [List.length_drop, List.length_take]
    omega)

/-! ### Both -/
theorem ex_SolveTiling (ts : List GTile) (bs : List Int) (h b : Int) (s0 : Sml ts) (s1 : Sml bs) :
    ∃ q, F_spec_SolveTiling ts bs h b = some q ∧ F_impl_SolveTiling ts bs h b = some q ∧ Med q.1 ∧ Cnt.cnt q.1 ≤ 1152921504606846976 := by
  unfold F_spec_SolveTiling F_impl_SolveTiling F_impl_budgetOk F_impl_size_int64
  rw [spec_ask ts bs h b s0.1 s1.1, impl_valid ts s0.1, impl_frame bs s1.1, impl_in, impl_in]
  simp only [bnd_some_eq]
  have emp : Med ([] : List (List Int)) ∧ Cnt.cnt ([] : List (List Int)) ≤ 1152921504606846976 := tfit (Nat.zero_le _) (by simp)
  cases hv : validT ts
  · exact ⟨_, rfl, rfl, emp⟩
  cases hf : frameB bs
  · exact ⟨_, rfl, rfl, emp⟩
  cases hh : inB h 1 40
  · exact ⟨_, rfl, rfl, emp⟩
  cases hb : inB b 1 20000
  · exact ⟨_, rfl, rfl, emp⟩
  simp only [if_true, Bool.true_and, Bool.not_true, cond_false]
  rw [decide_eq_false (by simp), cond_false]
  have hts : ts.length ≤ 300 := by
    unfold validT at hv
    simp only [Bool.and_eq_true, decide_eq_true_eq] at hv
    exact hv.1.1.2
  have hbs : 0 < bs.length ∧ bs.length ≤ 30 := by
    unfold frameB at hf
    simp only [Bool.and_eq_true, decide_eq_true_eq] at hf
    exact hf.1
  obtain ⟨hh1, hh2⟩ := inB_iff0.1 hh
  obtain ⟨hb1, hb2⟩ := inB_iff0.1 hb
  have eh : h = ((h.toNat : Nat) : Int) := by omega
  have eb : b = ((b.toNat : Nat) : Int) := by omega
  have hN : bs.length * h.toNat ≤ 1200 := Nat.le_trans (Nat.mul_le_mul hbs.2 (by omega : h.toNat ≤ 40)) (by omega)
  have ew : w64 ((bs.length : Int) * h) = ((bs.length * h.toNat : Nat) : Int) := by
    rw [eh, ← Int.natCast_mul, Int.toNat_natCast]
    exact w64_in (by omega) (by omega)
  rw [ew]
  obtain ⟨r, hr, h1, h2, h3, h4, h5, h6⟩ := spec_sol (N := bs.length * h.toNat) (B := b.toNat) hts hbs.1 hbs.2 (by omega) hN (bs.length * h.toNat) [] 0 (by simp) (fun x hx => by simp at hx) (by omega)
  have e1 : F_spec_l33Search_fill ⟨ts, bs, ((bs.length * h.toNat : Nat) : Int), b, false, 0, 0, false, []⟩ = some r := by
    have hr' := hr
    rw [← eb] at hr'
    exact (fixR_iff mono_S).2 ⟨bs.length * h.toNat + 1, hr'⟩
  have hm : mke ((bs.length * h.toNat : Nat) : Int) (0 : Int) = some (List.replicate (bs.length * h.toNat) 0) := by
    unfold mke
    rw [if_pos (by constructor <;> omega), Int.toNat_natCast]
  obtain ⟨q, hq, g1, g2, g3, _, _, g6, g7⟩ := impl_sol (N := bs.length * h.toNat) (B := b.toNat) hts hbs.1 hbs.2 (by omega) hN (bs.length * h.toNat) [] (List.replicate (bs.length * h.toNat) 0) 0 (by simp) (fun x hx => by simp at hx) (by omega) (by simp) (by simp)
  have e2 : F_impl_tiler_fill_impl_SolveTiling_1 ⟨ts, bs, List.replicate (bs.length * h.toNat) 0, b⟩ 0 false = some q := by
    have hq' := hq
    rw [← eb, show b - ((0 : Nat) : Int) = b by omega] at hq'
    exact (fixR_iff mono_V).2 ⟨bs.length * h.toNat + 1, hq'⟩
  rw [e1, hm]
  simp only [bnd_some_eq]
  rw [e2]
  simp only [bnd_some_eq]
  rw [h4, h3, g2, g6]
  generalize srch2 ts bs b.toNat (bs.length * h.toNat) [] 0 = res at h4 h3 h5 h6 g2 g3 g6 g7
  obtain ⟨k, s, P⟩ := res
  simp only at h4 h3 h5 h6 g2 g3 g6 g7
  simp only
  by_cases k1 : k = 1
  · subst k1
    exact ⟨_, rfl, rfl, emp⟩
  rw [decide_eq_false k1, decide_eq_true k1, cond_false, Bool.not_true, cond_false]
  by_cases k2 : k = 2
  · have hP : P.length = bs.length * h.toNat := by rw [← g7 k2]; exact g3
    have p1 := spec_cut (P := P) (h := h.toNat) hbs.1 hbs.2 (by omega) hP r (h6 k2) h.toNat 0 (by omega)
    have p2 := impl_cut (P := P) (h := h.toNat) hbs.1 hbs.2 (by omega) hP q (g7 k2) h.toNat 0 (by omega)
    rw [Nat.zero_mul] at p1 p2
    rw [show cutR bs.length P 0 = [] from rfl, show ((0 : Nat) : Int) = 0 from rfl] at p1 p2
    rw [p1, p2, if_pos k2, decide_eq_false (by decide), cond_false, decide_eq_true k2, Bool.not_true, cond_false, decide_eq_false (by omega), cond_false]
    exact ⟨_, rfl, rfl, cutR_fit P hbs.2 (by omega)⟩
  · rw [if_neg k2, decide_eq_true rfl, cond_true, decide_eq_false k2, Bool.not_false, cond_true]
    exact ⟨_, rfl, rfl, emp⟩

theorem law_SolveTiling (ts : List GTile) (bs : List Int) (h b : Int) (w0 : Wf.wf ts) (w1 : Wf.wf bs) (w2 : Wf.wf h) (w3 : Wf.wf b) : F_laws_FnExactSolveTiling ts bs h b = some true :=
  lawof_SolveTiling ts bs h b w0 w1 w2 w3 (ex_SolveTiling ts bs h b)
end Go.Fn
