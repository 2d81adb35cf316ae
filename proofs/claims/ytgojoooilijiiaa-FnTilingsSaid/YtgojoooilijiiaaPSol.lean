/-
  The plain law of SolveTiling: both searches are one, and its rows are cut alike. No program in sight. No condition.
-/
import Derived.Test.YtgojoooilijiiaaPCnt
namespace Go.Fn
open Go Go.Tc
/-! ### The search for one: 0 for none, 1 for want of steps, 2 for found -/
def lp2 (fit : Nat → Bool) (B : Nat) (g : Nat → Nat → Nat × Nat × List Int) : Nat → Nat → Nat → Nat × Nat × List Int
  | 0, _, s => (0, s, [])
  | n + 1, i, s => if fit i = true then (if s = B then (1, s, []) else if (g i (s + 1)).1 = 0 then lp2 fit B g n (i + 1) (g i (s + 1)).2.1 else g i (s + 1)) else lp2 fit B g n (i + 1) s
def srch2 (ts : List GTile) (bs : List Int) (B : Nat) : Nat → List Int → Nat → Nat × Nat × List Int
  | 0, tl, s => (2, s, tl)
  | n + 1, tl, s => lp2 (fitB ts bs tl) B (fun i s => srch2 ts bs B n (tl ++ [(i : Int)]) s) ts.length 0 s
theorem lp2_le {fit : Nat → Bool} {B : Nat} {g : Nat → Nat → Nat × Nat × List Int} (hg : ∀ i s, s ≤ B → (g i s).2.1 ≤ B) : ∀ (n i : Nat) (s : Nat), s ≤ B → (lp2 fit B g n i s).2.1 ≤ B
  | 0, _, _, h => h
  | n + 1, i, s, h => by
    unfold lp2
    split
    · split
      · exact h
      · rename_i h1
        split
        · exact lp2_le hg n (i + 1) _ (hg i _ (by omega))
        · exact hg i _ (by omega)
    · exact lp2_le hg n (i + 1) s h
theorem srch2_le {ts : List GTile} {bs : List Int} {B : Nat} : ∀ (n : Nat) (tl : List Int) (s : Nat), s ≤ B → (srch2 ts bs B n tl s).2.1 ≤ B
  | 0, _, _, h => h
  | n + 1, tl, s, h => lp2_le (fun i s h => srch2_le n _ s h) _ _ s h

/-! ### The reference's -/
noncomputable abbrev stpV := (fun (rec_ : (Gtiler × Int × Bool) → Option ((Bool × Bool) × ((List Int) × Int × Bool))) (a_ : Gtiler × Int × Bool) => F_impl_tiler_fill_impl_SolveTiling_1_step (fun p0 p1 p3 => rec_ (p0, p1, p3)) a_.1 a_.2.1 a_.2.2)
theorem mono_V : Mono stpV := by
  refine Mono.of fun f g h a => ?_
  show OLe (F_impl_tiler_fill_impl_SolveTiling_1_step _ _ _ _) (F_impl_tiler_fill_impl_SolveTiling_1_step _ _ _ _)
  unfold F_impl_tiler_fill_impl_SolveTiling_1_step F_impl_tiler_fill_impl_SolveTiling_1_L1
  repeat' first | with_reducible exact OLe.refl _ | with_reducible exact h _ | with_reducible refine OLe.cond _ ?_ ?_ | with_reducible refine OLe.bnd ?_ (fun _ => ?_) | with_reducible refine OLe.elim _ (fun _ => ?_) (fun _ => ?_) | with_reducible refine OLe.run (fun _ => ?_)
def GoodV (N B : Nat) (res : Nat × Nat × List Int) (tl : List Int) (r : (Bool × Bool) × (List Int × Int × Bool)) : Prop := r.1.1 = decide (res.1 = 0) ∧ r.1.2 = decide (res.1 ≠ 1) ∧ r.2.1.length = N ∧ r.2.1.take tl.length = tl ∧ r.2.2.1 = (B : Int) - (res.2.1 : Int) ∧ r.2.2.2 = decide (res.1 = 2) ∧ (res.1 = 2 → r.2.1 = res.2.2)
theorem impl_solL {ts : List GTile} {bs tl : List Int} {N B : Nat} (hts : ts.length ≤ 300) (hbl : 0 < bs.length) (hb30 : bs.length ≤ 30) (hB : B ≤ 20000) (hN : N ≤ 1200) (htl : tl.length < N) (P0 : List Int) (l0 : Int)
    {rec_ : Gtiler → Int → Bool → Option ((Bool × Bool) × ((List Int) × Int × Bool))} {g : Nat → Nat → Nat × Nat × List Int} (hgl : ∀ i s, s ≤ B → (g i s).2.1 ≤ B)
    (hrec : ∀ i, i < ts.length → ∀ (P : List Int) (s : Nat), s ≤ B → P.length = N → P.take (tl ++ [(i : Int)]).length = tl ++ [(i : Int)] → ∃ r, rec_ ⟨ts, bs, P, (B : Int) - (s : Int)⟩ ((tl.length + 1 : Nat) : Int) false = some r ∧ GoodV N B (g i s) (tl ++ [(i : Int)]) r) :
    ∀ (m i : Nat) (P : List Int) (st : Nat), i + m = ts.length → st ≤ B → P.length = N → P.take tl.length = tl →
      ∃ x, run (F_impl_tiler_fill_impl_SolveTiling_1_L1 ⟨ts, bs, P0, l0⟩ (tl.length : Int) rec_ (leftT ts bs tl) (underT ts bs tl)) (P, (B : Int) - (st : Int), false, (i : Int)) = some x ∧
        (if (lp2 (fitB ts bs tl) B g m i st).1 = 0 then ∃ P', P'.length = N ∧ P'.take tl.length = tl ∧ x = .brk (P', (B : Int) - ((lp2 (fitB ts bs tl) B g m i st).2.1 : Int), false, (ts.length : Int))
        else ∃ r, x = .ret r ∧ GoodV N B (lp2 (fitB ts bs tl) B g m i st) tl r) := by
  intro m
  induction m with
  | zero =>
    intro i P st hi hs hP ht
    have : i = ts.length := by omega
    subst this
    refine ⟨.brk (P, (B : Int) - (st : Int), false, (ts.length : Int)), run_done ?_, ?_⟩
    · simp only [F_impl_tiler_fill_impl_SolveTiling_1_L1]
      rw [decide_eq_false (by omega), cond_false]
    · show (if (0 : Nat) = 0 then _ else _)
      rw [if_pos rfl]
      exact ⟨P, hP, ht, rfl⟩
  | succ m ih =>
    intro i P st hi hs hP ht
    have hlt : i < ts.length := by omega
    have hnz : (bs.length : Int) ≠ 0 := by omega
    have hget : ts[i] = ts.getD i zT := by rw [List.getD_eq_getElem?_getD, List.getElem?_eq_getElem hlt]; rfl
    have hnx : w64 ((i : Int) + 1) = ((i + 1 : Nat) : Int) := w64_nat1 (by omega)
    have hl : (decide (Int.tmod (tl.length : Int) (bs.length : Int) = w64 ((bs.length : Int) - 1))) = lastT bs tl := by
      rw [tmodN, w64_in (by omega) (by omega)]
      unfold lastT
      rw [decide_eq_decide]
      omega
    have hbody : F_impl_tiler_fill_impl_SolveTiling_1_L1 ⟨ts, bs, P0, l0⟩ (tl.length : Int) rec_ (leftT ts bs tl) (underT ts bs tl) (P, (B : Int) - (st : Int), false, (i : Int)) =
        (cond (!fitB ts bs tl i) (some (.inl (P, (B : Int) - (st : Int), false, ((i + 1 : Nat) : Int)))) (cond (decide ((B : Int) - (st : Int) = 0)) (some (.inr (.ret ((false, false), (P, (B : Int) - (st : Int), false)))))
          (bnd (rec_ ⟨ts, bs, P.set tl.length (i : Int), w64 ((B : Int) - (st : Int) - 1)⟩ ((tl.length + 1 : Nat) : Int) false) fun r70 => cond (!r70.1.1) (some (.inr (.ret ((false, r70.1.2), (r70.2.1, r70.2.2.1, r70.2.2.2))))) (some (.inl (r70.2.1, r70.2.2.1, r70.2.2.2, ((i + 1 : Nat) : Int))))))) := by
      simp only [F_impl_tiler_fill_impl_SolveTiling_1_L1]
      rw [decN, decide_eq_true hlt, cond_true, idx_nat hlt, bnd_some_eq, hget, hl, hnx, nz_sm hnz, bnd_some_eq, impl_fits, bnd_some_eq, idx_nat (by omega : tl.length < P.length), bnd_some_eq, w64_nat1 (by omega : tl.length < 4611686018427387904), Int.toNat_natCast]
      rfl
    cases hf : fitB ts bs tl i with
    | false =>
      rw [hf, Bool.not_false, cond_true] at hbody
      rw [run_next hbody]
      have := ih (i + 1) P st (by omega) hs hP ht
      simpa only [lp2, hf, Bool.false_eq_true, if_false] using this
    | true =>
      rw [hf, Bool.not_true, cond_false] at hbody
      by_cases hsB : st = B
      · rw [decide_eq_true (by omega), cond_true] at hbody
        refine ⟨_, run_done hbody, ?_⟩
        simp only [lp2, hf, if_true, if_pos hsB]
        exact ⟨_, rfl, rfl, rfl, hP, ht, rfl, rfl, fun h => by cases h⟩
      · rw [decide_eq_false (by omega), cond_false, w64_in (by omega) (by omega), show (B : Int) - (st : Int) - 1 = (B : Int) - ((st + 1 : Nat) : Int) by omega] at hbody
        obtain ⟨r, hr, h1, h2, h3, h4, h5, h6, h7⟩ := hrec i hlt (P.set tl.length (i : Int)) (st + 1) (by omega) (by simpa using hP) (take_set ht (by omega))
        rw [hr, bnd_some_eq] at hbody
        have h4' : r.2.1.take tl.length = tl := by
          have := congrArg (List.take tl.length) h4
          rw [List.take_take, Nat.min_eq_left (by simp), List.take_left] at this
          exact this
        by_cases hg : (g i (st + 1)).1 = 0
        · rw [h1, decide_eq_true hg, Bool.not_true, cond_false, h5, h6, hg, decide_eq_false (by decide)] at hbody
          rw [run_next hbody]
          have := ih (i + 1) r.2.1 (g i (st + 1)).2.1 (by omega) (hgl _ _ (by omega)) h3 h4'
          simpa only [lp2, hf, if_true, if_neg hsB, hg] using this
        · rw [h1, decide_eq_false hg, Bool.not_false, cond_true] at hbody
          refine ⟨_, run_done hbody, ?_⟩
          simp only [lp2, hf, if_true, if_neg hsB, if_neg hg]
          exact ⟨_, rfl, by rw [decide_eq_false hg], h2, h3, h4', h5, h6, h7⟩
theorem impl_sol {ts : List GTile} {bs : List Int} {N B : Nat} (hts : ts.length ≤ 300) (hbl : 0 < bs.length) (hb30 : bs.length ≤ 30) (hB : B ≤ 20000) (hN : N ≤ 1200) :
    ∀ (n : Nat) (tl P : List Int) (s : Nat), tl.length + n = N → ValT ts tl → s ≤ B → P.length = N → P.take tl.length = tl →
      ∃ r, fixN stpV (n + 1) (⟨ts, bs, P, (B : Int) - (s : Int)⟩, (tl.length : Int), false) = some r ∧ GoodV N B (srch2 ts bs B n tl s) tl r := by
  intro n
  induction n with
  | zero =>
    intro tl P s hn hv hs hP ht
    refine ⟨((false, true), (P, (B : Int) - (s : Int), true)), ?_, rfl, rfl, hP, ht, rfl, rfl, fun _ => ?_⟩
    rotate_left
    · show P = tl
      rw [← ht, List.take_of_length_le (by omega)]
    show F_impl_tiler_fill_impl_SolveTiling_1_step _ _ _ _ = _
    unfold F_impl_tiler_fill_impl_SolveTiling_1_step
    simp only
    rw [decide_eq_true (by omega), cond_true]
  | succ n ih =>
    intro tl P s hn hv hs hP ht
    have hnz : (bs.length : Int) ≠ 0 := by omega
    have hmod : tl.length % bs.length < bs.length := Nat.mod_lt _ hbl
    obtain ⟨x, hx, hm⟩ := impl_solL hts hbl hb30 hB hN (by omega : tl.length < N) P ((B : Int) - (s : Int)) (rec_ := fun p0 p1 p3 => fixN stpV (n + 1) (p0, p1, p3)) (g := fun i st => srch2 ts bs B n (tl ++ [(i : Int)]) st) (fun i st h => srch2_le n _ st h)
      (fun i hi P s hs hP ht => by
        have := ih (tl ++ [(i : Int)]) P s (by simp; omega) (hv.add hi) hs hP ht
        simpa using this) ts.length 0 P s (by omega) hs hP ht
    have hleft : (bnd (nz (bs.length : Int)) fun u4 => (cond (decide (0 < (Int.tmod (tl.length : Int) (bs.length : Int)))) (bnd (idx P (w64 ((tl.length : Int) - 1))) fun y7 => bnd (idx ts y7) fun y15 => some (.brk y15.Right)) (some (.brk 0))) : Option (Out (Int) ((Bool × Bool) × ((List Int) × Int × Bool)))) = some (.brk (leftT ts bs tl)) := by
      rw [nz_sm hnz, bnd_some_eq, tmodN]
      unfold leftT
      by_cases h0 : 0 < tl.length % bs.length
      · have hpos : 0 < tl.length := by
          refine Nat.pos_of_ne_zero fun e => ?_
          rw [e] at h0
          simp at h0
        rw [decide_eq_true (by omega), cond_true, if_pos h0, w64_in (by omega) (by omega), show ((tl.length : Int) - 1) = ((tl.length - 1 : Nat) : Int) by omega, take_get ht (by omega), bnd_some_eq, hv.at (by omega), bnd_some_eq]
      · rw [decide_eq_false (by omega), cond_false, if_neg h0]
    have hunder : ((cond (decide ((bs.length : Int) ≤ (tl.length : Int))) (bnd (idx P (w64 ((tl.length : Int) - (bs.length : Int)))) fun y32 => bnd (idx ts y32) fun y40 => some (.brk y40.Top)) (some (.brk (bs[tl.length % bs.length]'hmod)))) : Option (Out (Int) ((Bool × Bool) × ((List Int) × Int × Bool)))) = some (.brk (underT ts bs tl)) := by
      unfold underT
      by_cases h0 : bs.length ≤ tl.length
      · rw [decide_eq_true (by omega), cond_true, if_pos h0, w64_in (by omega) (by omega), show ((tl.length : Int) - (bs.length : Int)) = ((tl.length - bs.length : Nat) : Int) by omega, take_get ht (by omega), bnd_some_eq, hv.at (by omega), bnd_some_eq]
      · rw [decide_eq_false (by omega), cond_false, if_neg h0, List.getD_eq_getElem?_getD, List.getElem?_eq_getElem hmod]
        rfl
    have key : F_impl_tiler_fill_impl_SolveTiling_1_step (fun p0 p1 p3 => fixN stpV (n + 1) (p0, p1, p3)) ⟨ts, bs, P, (B : Int) - (s : Int)⟩ (tl.length : Int) false = (bnd (some x) (Out.elim (fun (s49 : (List Int) × Int × Bool × Int) => some ((true, true), (s49.1, s49.2.1, s49.2.2.1))) (fun (r : (Bool × Bool) × ((List Int) × Int × Bool)) => some r))) := by
      unfold F_impl_tiler_fill_impl_SolveTiling_1_step
      simp only
      rw [decide_eq_false (by omega), cond_false, nz_sm hnz, bnd_some_eq, tmodN, idx_nat hmod, bnd_some_eq, bnd_some_eq]
      have hleft' := hleft
      rw [nz_sm hnz, bnd_some_eq, tmodN] at hleft'
      rw [hleft', bnd_some_eq]
      simp only [Out.elim]
      rw [hunder, bnd_some_eq]
      simp only [Out.elim]
      exact congrArg (fun o => bnd o _) hx
    show ∃ r, F_impl_tiler_fill_impl_SolveTiling_1_step (fun p0 p1 p3 => fixN stpV (n + 1) (p0, p1, p3)) _ _ _ = some r ∧ _
    rw [key, bnd_some_eq]
    unfold srch2
    split at hm
    · rename_i h1
      obtain ⟨P', h2, h3, rfl⟩ := hm
      exact ⟨_, rfl, by rw [h1]; rfl, by rw [h1]; rfl, h2, h3, rfl, by rw [h1]; rfl, fun h => by rw [h1] at h; cases h⟩
    · rename_i h1
      obtain ⟨r, rfl, hg⟩ := hm
      exact ⟨r, rfl, hg⟩

/-! ### The rows -/
def cutR (w : Nat) (P : List Int) (n : Nat) : List (List Int) := (List.range n).map fun j => (P.take ((j + 1) * w)).drop (j * w)
theorem cutR_succ (w : Nat) (P : List Int) (n : Nat) : cutR w P (n + 1) = cutR w P n ++ [(P.take ((n + 1) * w)).drop (n * w)] := by
  unfold cutR
  rw [List.range_succ, List.map_append]
  rfl
theorem cutR_len (w : Nat) (P : List Int) (n : Nat) : (cutR w P n).length = n := by simp [cutR]
theorem impl_cut {bs P : List Int} {h : Nat} (hbs : 0 < bs.length) (hb30 : bs.length ≤ 30) (hh : h ≤ 40) (hP : P.length = bs.length * h) (r21 : (Bool × Bool) × (List Int × Int × Bool)) (hr : r21.2.1 = P) :
    ∀ (m j : Nat), j + m = h → run (F_impl_SolveTiling_L1 bs r21) (((j * bs.length : Nat) : Int), cutR bs.length P j) = some (.brk (((h * bs.length : Nat) : Int), cutR bs.length P h)) := by
  have hN : bs.length * h ≤ 1200 := Nat.le_trans (Nat.mul_le_mul hb30 hh) (by omega)
  intro m
  induction m with
  | zero =>
    intro j hj
    have : j = h := by omega
    subst this
    refine run_done ?_
    simp only [F_impl_SolveTiling_L1, hr]
    rw [Nat.mul_comm, hP, decide_eq_false (by omega), cond_false]
  | succ m ih =>
    intro j hj
    have hm : (j + 1) * bs.length ≤ h * bs.length := Nat.mul_le_mul_right _ (by omega)
    have hm1 : (j + 1) * bs.length = j * bs.length + bs.length := Nat.succ_mul _ _
    have hm2 : h * bs.length = bs.length * h := Nat.mul_comm _ _
    have hw : w64 (((j * bs.length : Nat) : Int) + (bs.length : Int)) = (((j + 1) * bs.length : Nat) : Int) := by
      rw [w64_in (by omega) (by omega)]
      omega
    have hb : F_impl_SolveTiling_L1 bs r21 (((j * bs.length : Nat) : Int), cutR bs.length P j) = some (.inl ((((j + 1) * bs.length : Nat) : Int), cutR bs.length P (j + 1))) := by
      simp only [F_impl_SolveTiling_L1, hr, F_slices_Clone_Sint64_int64]
      rw [decide_eq_true (by omega), cond_true, slc_ok (by omega) (by omega), bnd_some_eq]
      rw [show (if (((List.drop (j * bs.length) (List.take P.length P)).length : Nat) : Int) < (bs.length : Int) then (((List.drop (j * bs.length) (List.take P.length P)).length : Nat) : Int) else (bs.length : Int)) = (bs.length : Int) by
        rw [List.length_drop, List.length_take]
        split <;> omega]
      rw [hw, slc_ok (by omega) (by omega), bnd_some_eq, app_ok (by simp; omega), bnd_some_eq, bnd_some_eq, app_ok (by simp [cutR_len]; omega), bnd_some_eq, cutR_succ, List.nil_append]
    rw [run_next hb]
    exact ih (j + 1) (by omega)

end Go.Fn
