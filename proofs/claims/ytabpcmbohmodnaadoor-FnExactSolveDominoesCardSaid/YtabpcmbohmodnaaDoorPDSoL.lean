/-
  SolveDominoes: the reference's search, and the law. No program in sight. No condition.
-/
import Derived.Test.YtabpcmbohmodnaaDoorPDSoB
namespace Go.Fn
open Go Go.Tc
theorem known_runDS {L : List Gl32Rest} (hL : InvD L) (w : List Int) (u : Bool) (b d : Int) : ∀ (n i : Nat), i + n = L.length →
    run (F_spec_l32Known_L1 (rootS :: L) ⟨w, u, b, d⟩) ((i + 1 : Nat) : Int) = some (if (L.drop i).any (sameR w u) = true then .ret true else .brk ((L.length + 1 : Nat) : Int)) := by
  have hl := hL.len
  intro n
  induction n with
  | zero =>
    intro i hi
    obtain rfl : i = L.length := by omega
    rw [List.drop_length, if_neg (by simp)]
    refine run_done ?_
    simp only [F_spec_l32Known_L1]
    rw [decide_eq_false (by rw [List.length_cons]; omega), cond_false]
  | succ n ih =>
    intro i hi
    have hil : i < L.length := by omega
    have hx : idx (rootS :: L) ((i + 1 : Nat) : Int) = some L[i] := by
      rw [idx_nat (by rw [List.length_cons]; omega)]
      rfl
    have he := (hL.el i hil).2.1
    rw [List.drop_eq_getElem_cons hil, List.any_cons]
    by_cases hs : sameR w u L[i] = true
    · rw [hs, Bool.true_or, if_pos rfl]
      unfold sameR at hs
      simp only [Bool.and_eq_true, decide_eq_true_eq] at hs
      refine run_done ?_
      simp only [F_spec_l32Known_L1]
      rw [decide_eq_true (by rw [List.length_cons]; omega), cond_true, hx, bnd_some_eq, hs.1, beq_self_eq_true, cond_true, bnd_some_eq, spec_same _ _ (by omega), bnd_some_eq, decide_eq_true hs.2, cond_true]
    · have hs' : sameR w u L[i] = false := by simpa using hs
      have hb : F_spec_l32Known_L1 (rootS :: L) ⟨w, u, b, d⟩ ((i + 1 : Nat) : Int) = some (.inl ((i + 1 + 1 : Nat) : Int)) := by
        unfold sameR at hs'
        simp only [F_spec_l32Known_L1]
        rw [decide_eq_true (by rw [List.length_cons]; omega), cond_true, hx, bnd_some_eq]
        by_cases hu : L[i].upper = u
        · rw [decide_eq_true hu, Bool.true_and] at hs'
          rw [hu, beq_self_eq_true, cond_true, bnd_some_eq, spec_same _ _ (by omega), bnd_some_eq, hs', cond_false, w64_nat1 (by omega)]
        · rw [show (L[i].upper == u) = false from by simpa using hu, cond_false, w64_nat1 (by omega)]
      rw [run_next hb, hs', Bool.false_or]
      exact ih (i + 1) (by omega)
theorem spec_knownDS {L : List Gl32Rest} (hL : InvD L) (w : List Int) (u : Bool) (b d : Int) : F_spec_l32Known (rootS :: L) ⟨w, u, b, d⟩ = some (L.any (sameR w u)) := by
  unfold F_spec_l32Known
  have := known_runDS hL w u b d L.length 0 (by omega)
  rw [show ((0 + 1 : Nat) : Int) = 1 from rfl, List.drop_zero] at this
  rw [this, bnd_some_eq]
  cases L.any (sameR w u) <;> rfl
theorem spec_innerDS {ds : List GDomino} (hD : DsOk ds) {p0 : List GDomino} {first budget : Int} {k : Nat} (R : List Gl32Rest) (wb : Bool) : ∀ (d i : Nat) (L : List Gl32Rest) (wh : Bool), i + d = ds.length → InvD L → k ≤ L.length →
    ∃ o, run (F_laws_FnExactSolveDominoes_L2 p0 first budget ds (R, wb, (k : Int))) (rootS :: L, wh, (i : Int)) = some o ∧
      match innerO ds k ((List.range' i d).filter fun j => !skB k j first) (L, wh) with
      | .inl s' => o = .brk (rootS :: s'.1, s'.2, (ds.length : Int))
      | .inr r => o = .ret (solK p0 first budget r) := by
  intro d
  induction d with
  | zero =>
    intro i L wh hi hL hk
    obtain rfl : i = ds.length := by omega
    refine ⟨_, run_done ?_, rfl⟩
    simp only [F_laws_FnExactSolveDominoes_L2]
    rw [decide_eq_false (Int.lt_irrefl _), cond_false]
  | succ d ih =>
    intro i L wh hi hL hk
    have hid : i < ds.length := by omega
    have hd := hD.el ds[i] (List.getElem_mem hid)
    have hLl := hL.len
    have hn := hD.n
    have hsk : (cond (decide ((k : Int) = 0)) (cond (decide (0 ≤ first)) (some (.brk (decide ((i : Int) ≠ first)))) (some (.brk false))) (some (.brk false)) : Option (Out (Bool) (Option (Bool)))) = some (.brk (skB k i first)) := by
      unfold skB
      by_cases h0 : k = 0
      · rw [decide_eq_true (by omega), cond_true, decide_eq_true h0, Bool.true_and]
        cases decide (0 ≤ first) <;> rfl
      · rw [decide_eq_false (by omega), cond_false, decide_eq_false h0]
        rfl
    rw [List.range'_succ, List.filter_cons]
    by_cases hs : skB k i first = true
    · rw [if_neg (by rw [hs]; decide)]
      have hb : F_laws_FnExactSolveDominoes_L2 p0 first budget ds (R, wb, (k : Int)) (rootS :: L, wh, (i : Int)) = some (.inl (rootS :: L, wh, ((i + 1 : Nat) : Int))) := by
        simp only [F_laws_FnExactSolveDominoes_L2]
        rw [decide_eq_true (by omega), cond_true, hsk, bnd_some_eq]
        simp only [Out.elim]
        rw [hs, cond_true, w64_nat1 (by omega)]
      rw [run_next hb]
      exact ih (i + 1) L wh (by omega) hL hk
    have hs' : skB k i first = false := by simpa using hs
    rw [if_pos (by rw [hs']; rfl), innerO_cons]
    obtain ⟨hl9, hlen, _, _⟩ := hL.at k
    have hst : stepO ds k i (L, wh) = match putA (((rootS :: L).getD k zRest).word, ((rootS :: L).getD k zRest).upper) ds[i] with
      | none => .inl (L, wh)
      | some x => if x.1 = [] then .inr (pth (rootS :: L) (L.length + 2) k i, 0) else if 400 < x.1.length then .inl (L, false)
        else if L.any (sameR x.1 x.2) = true then .inl (L, wh) else if 299 ≤ L.length then .inr ([], 5) else .inl (L ++ [⟨x.1, x.2, (k : Int), (i : Int)⟩], wh) := by
      unfold stepO
      rw [ds_get hid]
      rfl
    have hput := spec_put_eq ((rootS :: L).getD k zRest) ds[i] hlen hd.2.1 hd.2.2
    rw [hst]
    cases hp : putA (((rootS :: L).getD k zRest).word, ((rootS :: L).getD k zRest).upper) ds[i] with
    | none =>
      rw [hp] at hput
      have hb : F_laws_FnExactSolveDominoes_L2 p0 first budget ds (R, wb, (k : Int)) (rootS :: L, wh, (i : Int)) = some (.inl (rootS :: L, wh, ((i + 1 : Nat) : Int))) := by
        simp only [F_laws_FnExactSolveDominoes_L2]
        rw [decide_eq_true (by omega), cond_true, hsk, bnd_some_eq]
        simp only [Out.elim]
        rw [hs', cond_false, getD_idx (by omega), bnd_some_eq, idx_nat hid, bnd_some_eq]
        rw [hput, bnd_some_eq]
        simp only [Out.elim, putR]
        rw [Bool.not_false, cond_true, w64_nat1 (by omega)]
      rw [run_next hb]
      exact ih (i + 1) L wh (by omega) hL hk
    | some x =>
      rw [hp] at hput
      have hx := putA_let hl9 hd.1.1 hd.1.2 hp
      have head : ∀ X, (cond (decide ((x.1.length : Int) = 0)) (bnd (F_spec_l32Back (rootS :: L) (⟨x.1, x.2, (k : Int), (i : Int)⟩ : Gl32Rest)) fun r408 => some (.inr (.ret (solK p0 first budget r408)))) (cond (decide (400 < (x.1.length : Int))) (some (.inl (rootS :: L, false, (w64 ((i : Int) + 1))))) (bnd (F_spec_l32Known (rootS :: L) (⟨x.1, x.2, (k : Int), (i : Int)⟩ : Gl32Rest)) fun r459 => (cond r459 (some (.inl (rootS :: L, wh, (w64 ((i : Int) + 1))))) (bnd (app (rootS :: L) ([(⟨x.1, x.2, (k : Int), (i : Int)⟩ : Gl32Rest)] : List Gl32Rest)) fun z463 => (cond (decide (300 < (z463.length : Int))) (some (.inr (.ret (solK p0 first budget ([], 5))))) (some (.inl (z463, wh, (w64 ((i : Int) + 1))))))))))) = X →
          F_laws_FnExactSolveDominoes_L2 p0 first budget ds (R, wb, (k : Int)) (rootS :: L, wh, (i : Int)) = X := by
        intro X hX
        simp only [F_laws_FnExactSolveDominoes_L2]
        rw [decide_eq_true (by omega), cond_true, hsk, bnd_some_eq]
        simp only [Out.elim]
        rw [hs', cond_false, getD_idx (by omega), bnd_some_eq, idx_nat hid, bnd_some_eq]
        rw [hput, bnd_some_eq]
        simp only [Out.elim, putR]
        rw [Bool.not_true, cond_false]
        exact hX
      have happ : app (rootS :: L) ([(⟨x.1, x.2, (k : Int), (i : Int)⟩ : Gl32Rest)] : List Gl32Rest) = some (rootS :: (L ++ [(⟨x.1, x.2, (k : Int), (i : Int)⟩ : Gl32Rest)])) := by
        rw [app_ok (by rw [List.length_cons, List.length_singleton]; omega)]
        rfl
      have hlen2 : (rootS :: (L ++ [(⟨x.1, x.2, (k : Int), (i : Int)⟩ : Gl32Rest)])).length = L.length + 2 := by
        rw [List.length_cons, List.length_append, List.length_singleton]
      simp only
      by_cases he : x.1 = []
      · rw [if_pos he]
        refine ⟨_, run_done (head _ ?_), rfl⟩
        have hz : (x.1.length : Int) = 0 := by rw [he]; rfl
        rw [decide_eq_true hz, cond_true, spec_backDS hL x.1 x.2 (by omega), bnd_some_eq]
      · rw [if_neg he]
        have hpos : (x.1.length : Int) ≠ 0 := by
          intro h0
          exact he (List.eq_nil_of_length_eq_zero (by omega))
        by_cases hbig : 400 < x.1.length
        · rw [if_pos hbig]
          have hb := head (some (.inl (rootS :: L, false, ((i + 1 : Nat) : Int)))) (by rw [decide_eq_false hpos, cond_false, decide_eq_true (show (400 : Int) < (x.1.length : Int) by omega), cond_true, w64_nat1 (by omega)])
          rw [run_next hb]
          exact ih (i + 1) L false (by omega) hL hk
        · rw [if_neg hbig]
          by_cases hany : L.any (sameR x.1 x.2) = true
          · rw [if_pos hany]
            have hb := head (some (.inl (rootS :: L, wh, ((i + 1 : Nat) : Int)))) (by
              rw [decide_eq_false hpos, cond_false, decide_eq_false (show ¬ (400 : Int) < (x.1.length : Int) by omega), cond_false, spec_knownDS hL, bnd_some_eq, hany, cond_true, w64_nat1 (by omega)])
            rw [run_next hb]
            exact ih (i + 1) L wh (by omega) hL hk
          · rw [if_neg hany]
            have hany' : L.any (sameR x.1 x.2) = false := by simpa using hany
            by_cases hful : 299 ≤ L.length
            · rw [if_pos hful]
              refine ⟨_, run_done (head _ ?_), rfl⟩
              rw [decide_eq_false hpos, cond_false, decide_eq_false (show ¬ (400 : Int) < (x.1.length : Int) by omega), cond_false, spec_knownDS hL, bnd_some_eq, hany', cond_false, happ, bnd_some_eq, hlen2, decide_eq_true (show (300 : Int) < ((L.length + 2 : Nat) : Int) by omega), cond_true]
            · rw [if_neg hful]
              have hb := head (some (.inl (rootS :: (L ++ [(⟨x.1, x.2, (k : Int), (i : Int)⟩ : Gl32Rest)]), wh, ((i + 1 : Nat) : Int)))) (by
                rw [decide_eq_false hpos, cond_false, decide_eq_false (show ¬ (400 : Int) < (x.1.length : Int) by omega), cond_false, spec_knownDS hL, bnd_some_eq, hany', cond_false, happ, bnd_some_eq, hlen2, decide_eq_false (show ¬ (300 : Int) < ((L.length + 2 : Nat) : Int) by omega), cond_false, w64_nat1 (by omega)])
              rw [run_next hb]
              exact ih (i + 1) _ wh (by omega) (hL.add hx he (by omega) hk (by omega)) (by rw [List.length_append]; omega)
theorem spec_outerDS {ds : List GDomino} (hD : DsOk ds) {p0 : List GDomino} {first budget : Int} : ∀ (n k : Nat) (L : List Gl32Rest) (wh : Bool), 302 ≤ n + k → InvD L → k ≤ L.length + 1 →
    ∃ o, run (F_laws_FnExactSolveDominoes_L1 p0 first budget ds) (rootS :: L, wh, (k : Int)) = some o ∧
      (o = .ret (solK p0 first budget (outerO ds first budget n k (L, wh))) ∨ ∃ fs b k', o = .brk (fs, b, k') ∧ outerO ds first budget n k (L, wh) = if b = true then ([], 3) else ([], 5)) := by
  intro n
  induction n with
  | zero =>
    intro k L wh hn hL hk
    have := hL.len
    omega
  | succ n ih =>
    intro k L wh hn hL hk
    have hLl := hL.len
    rw [outerO_succ]
    simp only
    have hlen : (rootS :: L).length = L.length + 1 := List.length_cons ..
    by_cases hkl : k < L.length + 1
    · rw [if_pos hkl]
      by_cases hb : (k : Int) = budget
      · rw [if_pos hb]
        refine ⟨_, run_done (x := .ret (solK p0 first budget ([], 5))) ?_, .inl rfl⟩
        simp only [F_laws_FnExactSolveDominoes_L1]
        rw [hlen, decide_eq_true (by omega), cond_true, decide_eq_true hb, cond_true]
        rfl
      · rw [if_neg hb]
        obtain ⟨o, e, ho⟩ := spec_innerDS hD (p0 := p0) (first := first) (budget := budget) (k := k) (rootS :: L) wh ds.length 0 L wh (by omega) hL (by omega)
        rw [← idxs_range] at ho
        rw [show ((0 : Nat) : Int) = 0 from rfl] at e
        cases hin : innerO ds k (idxs k first ds.length) (L, wh) with
        | inl s' =>
          rw [hin] at ho
          simp only at ho
          subst ho
          obtain ⟨hL', hle⟩ := innerO_inv hD _ _ _ idxs_lt hL (by simp only; omega) hin
          simp only at hle
          have hbd : F_laws_FnExactSolveDominoes_L1 p0 first budget ds (rootS :: L, wh, (k : Int)) = some (.inl (rootS :: s'.1, s'.2, ((k + 1 : Nat) : Int))) := by
            simp only [F_laws_FnExactSolveDominoes_L1]
            rw [hlen, decide_eq_true (by omega), cond_true, decide_eq_false hb, cond_false, e, bnd_some_eq]
            simp only [Out.elim]
            rw [w64_nat1 (by omega)]
          rw [run_next hbd]
          exact ih (k + 1) s'.1 s'.2 (by omega) hL' (by omega)
        | inr r =>
          rw [hin] at ho
          simp only at ho
          subst ho
          refine ⟨_, run_done ?_, .inl rfl⟩
          simp only [F_laws_FnExactSolveDominoes_L1]
          rw [hlen, decide_eq_true (by omega), cond_true, decide_eq_false hb, cond_false, e, bnd_some_eq]
          rfl
    · rw [if_neg hkl]
      refine ⟨_, run_done (x := .brk (rootS :: L, wh, (k : Int))) ?_, .inr ⟨_, _, _, rfl, rfl⟩⟩
      simp only [F_laws_FnExactSolveDominoes_L1]
      rw [hlen, decide_eq_false (by omega), cond_false]
theorem innerO_len {ds : List GDomino} (hD : DsOk ds) {k : Nat} : ∀ (l : List Nat) (s : StD) (r : List Int × Int), (∀ i ∈ l, i < ds.length) → InvD s.1 → k ≤ s.1.length → innerO ds k l s = .inr r → r.1.length ≤ 302
  | [], s, r, _, _, _, e => by cases e
  | i :: l, s, r, hl, h, hk, e => by
    rw [innerO_cons] at e
    cases hs : stepO ds k i s with
    | inr r' =>
      rw [hs] at e
      simp only [Sum.inr.injEq] at e
      subst e
      have hlen := h.len
      unfold stepO at hs
      split at hs
      · cases hs
      · split at hs
        · simp only [Sum.inr.injEq] at hs
          subst hs
          have := pth_len (rootS :: s.1) (s.1.length + 2) (k : Int) (i : Int)
          simp only
          omega
        · split at hs
          · cases hs
          · split at hs
            · cases hs
            · split at hs
              · simp only [Sum.inr.injEq] at hs
                subst hs
                exact Nat.zero_le _
              · cases hs
    | inl s1 =>
      rw [hs] at e
      simp only at e
      obtain ⟨h1, h2⟩ := stepO_inv hD (hl i (List.mem_cons_self ..)) h hk hs
      exact innerO_len hD l s1 r (fun j hj => hl j (List.mem_cons_of_mem _ hj)) h1 (by omega) e
theorem outerO_len {ds : List GDomino} (hD : DsOk ds) {first budget : Int} : ∀ (n k : Nat) (s : StD), InvD s.1 → (outerO ds first budget n k s).1.length ≤ 302
  | 0, _, _, _ => Nat.zero_le _
  | n + 1, k, s, h => by
    rw [outerO_succ]
    split
    · rename_i hk
      split
      · exact Nat.zero_le _
      · split
        · rename_i s' hin
          exact outerO_len hD n (k + 1) s' (innerO_inv hD _ _ _ idxs_lt h (by omega) hin).1
        · rename_i r hin
          exact innerO_len hD _ _ _ idxs_lt h (by omega) hin
    · split <;> exact Nat.zero_le _
theorem law_SolveDominoes (p0 : List GDomino) (p1 p2 : Int) (w0 : Wf.wf p0) (_ : Wf.wf p1) (_ : Wf.wf p2) : F_laws_FnExactSolveDominoes p0 p1 p2 = some true := by
  unfold F_laws_FnExactSolveDominoes
  obtain ⟨q0, hq0, k0⟩ := sz_DominoS p0 w0 1048576 (by omega) (by omega)
  rw [hq0, bnd_some_eq]
  rcases k0 with k0 | ⟨a0, b0, s0⟩
  · rw [decide_eq_true k0]; rfl
  rw [decide_eq_false (by omega), cond_false, bnd_of (to_DominoS p0 s0), spec_doms p0 s0, bnd_some_eq]
  have hI := impl_solDS s0 p1 p2
  have hlen : (solO p0 p1 p2).1.length ≤ 1048576 := by
    unfold solO
    split
    · rename_i hd
      split
      · have := outerO_len (DsOk.of hd) (first := p1) (budget := p2) 302 0 ([], true) InvD.nil
        omega
      · exact Nat.zero_le _
    · exact Nat.zero_le _
  have hK := solK_ok s0 hI hlen
  cases hd : domsB p0
  · have hs : solO p0 p1 p2 = ([], 1) := by unfold solO; rw [hd]; rfl
    rw [hs] at hK
    rw [Bool.not_false, cond_true]
    exact hK
  have hl := domsB_len hd
  rw [Bool.not_true, cond_false]
  by_cases hc : inB p2 1 20000 = true ∧ inB p1 (-1) ((p0.length : Int) - 1) = true
  · have hs : solO p0 p1 p2 = outerO p0 p1 p2 302 0 ([], true) := by unfold solO; rw [if_pos hd, if_pos hc]
    rw [hs] at hK
    unfold F_spec_l05Budget
    rw [spec_in, bnd_some_eq, hc.1, bnd_some_eq, Bool.not_true, cond_false, spec_in, w64_in (by omega) (by omega), hc.2, bnd_some_eq, Bool.not_true, cond_false, bnd_some_eq]
    simp only [Out.elim]
    obtain ⟨o, e, ho⟩ := spec_outerDS (DsOk.of hd) (p0 := p0) (first := p1) (budget := p2) 302 0 [] true (by omega) InvD.nil (by omega)
    rw [show run (F_laws_FnExactSolveDominoes_L1 p0 p1 p2 p0) (([(⟨([] : (List Int)), false, (-1), (-1)⟩ : Gl32Rest)] : List Gl32Rest), true, 0) = some o from e, bnd_some_eq]
    rcases ho with rfl | ⟨fs, b, k', rfl, hr⟩
    · exact hK
    · rw [hr] at hK
      cases b
      · exact hK
      · exact hK
  · have hs : solO p0 p1 p2 = ([], 2) := by unfold solO; rw [if_pos hd, if_neg hc]
    rw [hs] at hK
    unfold F_spec_l05Budget
    rw [spec_in, bnd_some_eq, bnd_some_eq]
    cases h1 : inB p2 1 20000
    · rw [Bool.not_false, cond_true, bnd_some_eq]
      exact hK
    · rw [Bool.not_true, cond_false, spec_in, w64_in (by omega) (by omega), bnd_some_eq]
      cases h2 : inB p1 (-1) ((p0.length : Int) - 1)
      · rw [Bool.not_false, cond_true, bnd_some_eq]
        exact hK
      · exact absurd ⟨h1, h2⟩ hc
end Go.Fn
