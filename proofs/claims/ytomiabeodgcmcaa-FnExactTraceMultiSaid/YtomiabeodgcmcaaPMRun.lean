/-
  StepMulti, RunMulti, TraceMulti. No program in sight. No condition.
-/
import Derived.Test.YtomiabeodgcmcaaPMStep
namespace Go.Fn
open Go Go.Tc
/-! ### What comes out fits -/
theorem cnt_tape (t : GTape) (h1 : t.Left.length ≤ 200) (h2 : t.Right.length ≤ 200) : Cnt.cnt t ≤ 400 := by
  show Cnt.cnt t.Left + Cnt.cnt t.Right ≤ 400
  rw [cnt_ints, cnt_ints]
  omega
theorem med_tape (t : GTape) (h1 : t.Left.length ≤ 200) (h2 : t.Right.length ≤ 200) : Med t :=
  ⟨⟨by omega, fun _ _ => trivial⟩, by omega, fun _ _ => trivial⟩
theorem fit_tapes {ts : List GTape} (hl : ts.length ≤ 3) (h : ∀ t ∈ ts, t.Left.length ≤ 200 ∧ t.Right.length ≤ 200) : Med ts ∧ Cnt.cnt ts ≤ 1200 :=
  ⟨⟨by omega, fun t ht => med_tape t (h t ht).1 (h t ht).2⟩, Nat.le_trans (cnt_le (n := 3) (m := 400) hl fun t ht => cnt_tape t (h t ht).1 (h t ht).2) (by decide)⟩
theorem fit_cfg {c : GMultiConfig} (hl : c.Tapes.length ≤ 3) (h : ∀ t ∈ c.Tapes, t.Left.length ≤ 200 ∧ t.Right.length ≤ 200) : Med c ∧ Cnt.cnt c.Tapes ≤ 1152921504606846976 := by
  obtain ⟨a, b⟩ := fit_tapes hl h
  exact ⟨a, by omega⟩
theorem fit_nil : Med (⟨0, []⟩ : GMultiConfig) ∧ Cnt.cnt (⟨0, []⟩ : GMultiConfig).Tapes ≤ 1152921504606846976 := fit_cfg (c := ⟨0, []⟩) (by simp) (by simp)
/-! ### StepMulti -/
theorem mt_ruleAtI (m : GMulti) (c : GMultiConfig) (s0 : Sml m) (s1 : Sml c) (hm : multiB m = true) (hc : confM m c = true) : F_impl_MultiRuleAt m c = some (match ruleIx m c with | none => (0, 3) | some i => ((i : Int), 0)) := by
  have h := MOk.of hm
  have hk := confM_ok hc
  have h1 := hk.1
  have t2 := h.t2
  have t3 := h.t3
  unfold F_impl_MultiRuleAt
  rw [mt_config m c s0 s1, hm, hc, bnd_some_eq]
  obtain ⟨tb, ht, hT⟩ := mt_tableG (X := Option (Int × Int)) h
  have q : (F_impl_MultiRuleAt_L1 m : List (Greading × Int) × Int → _) = tbB m := rfl
  simp only [Bool.and_self, Bool.not_true, cond_false]
  rw [q, ht, bnd_some_eq]
  simp only [Out.elim]
  rw [mt_read (by omega) (by omega), bnd_some_eq, mt_look h hT c h1]
  cases ruleIx m c <;> rfl
theorem ex_StepMulti (m : GMulti) (c : GMultiConfig) (s0 : Sml m) (s1 : Sml c) : ∃ w : GMultiConfig × Int, F_spec_StepMulti m c = some w ∧ F_impl_StepMulti m c = some w ∧ Med w.1 ∧ Cnt.cnt w.1.Tapes ≤ 1152921504606846976 := by
  unfold F_spec_StepMulti F_impl_StepMulti
  rw [mt_spec m s0, mt_good m c s1, bnd_some_eq, bnd_some_eq]
  have hbad : (multiB m && confM m c) = false → F_impl_MultiRuleAt m c = some (0, 1) := fun hb => by
    unfold F_impl_MultiRuleAt
    rw [mt_config m c s0 s1, hb, bnd_some_eq]
    rfl
  cases hm : multiB m
  · rw [hbad (by rw [hm]; rfl)]
    exact ⟨_, rfl, rfl, fit_nil⟩
  cases hc : confM m c
  · rw [hbad (by rw [hm, hc]; rfl)]
    exact ⟨_, rfl, rfl, fit_nil⟩
  have h := MOk.of hm
  have hk := confM_ok hc
  have hs := hk.shrt h
  simp only [Bool.not_true, cond_false]
  rw [mt_stepSpec m c s0 h hk, mt_ruleAtI m c s0 s1 hm hc, bnd_some_eq, bnd_some_eq]
  cases hq : ruleIx m c with
  | none => exact ⟨_, rfl, rfl, fit_nil⟩
  | some k =>
    have hlt := ruleIx_lt hq
    obtain ⟨_, hw, hmv⟩ := h.row k hlt
    have h1 := hk.1
    have q : (F_impl_StepMulti_L1 c m.Rules[k] : List GTape × Bool × Int → Option ((List GTape × Bool × Int) ⊕ Out (List GTape × Bool × Int) (Option (GMultiConfig × Int)))) = apB (c.Tapes.length : Int) m.Rules[k] := rfl
    have e1 : decide ((0 : Int) = 3) = false := rfl
    have e2 : decide ((0 : Int) = 1) = false := rfl
    simp only [e1, e2, cond_false]
    rw [mt_copyI c hs, bnd_some_eq, idx_nat hlt, bnd_some_eq, q, mt_apply c.Tapes m.Rules[k] hs (by omega) (by omega), bnd_some_eq, mget_rule hlt]
    simp only [Out.elim]
    cases hst : stepC m.Rules[k] c with
    | none =>
      unfold stepC at hst
      have hf : (tapesM c.Tapes m.Rules[k]).all fitT = false := by
        cases hx : (tapesM c.Tapes m.Rules[k]).all fitT
        · rfl
        · rw [if_pos hx] at hst; cases hst
      rw [hf]
      exact ⟨_, rfl, rfl, fit_nil⟩
    | some c' =>
      have hok := stepC_ok hk hst
      have hsh := hok.shrt h
      unfold stepC at hst
      have hf : (tapesM c.Tapes m.Rules[k]).all fitT = true := by
        cases hx : (tapesM c.Tapes m.Rules[k]).all fitT
        · rw [hx] at hst; simp at hst
        · rfl
      rw [if_pos hf] at hst
      cases hst
      rw [hf]
      exact ⟨_, rfl, rfl, fit_cfg hsh.1 hsh.2⟩
theorem law_StepMulti (m : GMulti) (c : GMultiConfig) (w0 : Wf.wf m) (w1 : Wf.wf c) : F_laws_FnExactStepMulti m c = some true :=
  lawof_StepMulti m c w0 w1 (ex_StepMulti m c)
/-! ### RunMulti -/
theorem mt_ownS (c : GMultiConfig) (hs : Shrt c.Tapes) : F_spec_l06Own c = some c := by
  unfold F_spec_l06Own
  have key : ∀ (n i : Nat), i + n = c.Tapes.length → run (F_spec_l06Own_L1 c) (c.Tapes.take i, (i : Int)) = some (.brk (c.Tapes, (c.Tapes.length : Int))) := by
    intro n
    induction n with
    | zero =>
      intro i hi
      obtain rfl : i = c.Tapes.length := by omega
      rw [List.take_length]
      refine run_done ?_
      simp only [F_spec_l06Own_L1]
      rw [decide_eq_false (by omega), cond_false]
    | succ n ih =>
      intro i hi
      have hlt : i < c.Tapes.length := by omega
      obtain ⟨h1, h2⟩ := hs.2 _ (List.getElem_mem hlt)
      have hb : F_spec_l06Own_L1 c (c.Tapes.take i, (i : Int)) = some (.inl (c.Tapes.take (i + 1), ((i + 1 : Nat) : Int))) := by
        simp only [F_spec_l06Own_L1]
        rw [decide_eq_true (by omega : (i : Int) < (c.Tapes.length : Int)), cond_true, idx_nat hlt, bnd_some_eq, bnd_some_eq, spec_own' _ (by omega), bnd_some_eq, spec_own' _ (by omega), bnd_some_eq, app_ok (by have := hs.1; simp; omega), bnd_some_eq, w64_nat1 (by have := hs.1; omega), List.take_succ_eq_append_getElem hlt]
      rw [run_next hb]
      exact ih (i + 1) (by omega)
  have := key c.Tapes.length 0 (by omega)
  rw [List.take_zero] at this
  rw [show ((0 : Nat) : Int) = 0 from rfl] at this
  rw [this, bnd_some_eq]
  rfl
def runM (m : GMulti) : Nat → GMultiConfig → Nat → GMultiConfig × Int × Bool × Int
  | 0, c, n => match ruleIx m c with
    | none => (c, (n : Int), true, 0)
    | some _ => (c, (n : Int), false, 0)
  | f + 1, c, n => match ruleIx m c with
    | none => (c, (n : Int), true, 0)
    | some k => match stepC (m.Rules.getD k zM) c with
      | none => (⟨0, []⟩, 0, false, 5)
      | some c' => runM m f c' (n + 1)
theorem runM_fit {m : GMulti} (h : MOk m) : ∀ (f : Nat) (c : GMultiConfig) (n : Nat), COk m c → Med (runM m f c n).1 ∧ Cnt.cnt (runM m f c n).1.Tapes ≤ 1152921504606846976
  | 0, c, n, hc => by
    have := hc.shrt h
    rw [runM]
    split
    · exact fit_cfg this.1 this.2
    · exact fit_cfg this.1 this.2
  | f + 1, c, n, hc => by
    have := hc.shrt h
    rw [runM]
    split
    · exact fit_cfg this.1 this.2
    · split
      · exact fit_nil
      · rename_i hst
        exact runM_fit h f _ _ (stepC_ok hc hst)
theorem mt_runS {m : GMulti} (s0 : Sml m) (h : MOk m) (b : Nat) (hb : b ≤ 20000) : ∀ (f : Nat) (c : GMultiConfig) (n : Nat), n + f = b → COk m c → run (F_spec_l06Run_L1 m (b : Int)) (c.State, c.Tapes, (n : Int)) = some (.ret (runM m f c n))
  | 0, c, n, hn, hc => by
    have hs := hc.shrt h
    obtain rfl : n = b := by omega
    refine run_done ?_
    simp only [F_spec_l06Run_L1]
    rw [mt_ruleS m _ s0 (by have := hs.1; simp only; omega), bnd_some_eq, runM]
    have e : (⟨c.State, c.Tapes⟩ : GMultiConfig) = c := rfl
    rw [e]
    cases hq : ruleIx m c with
    | none => rfl
    | some k =>
      simp only
      rw [decide_eq_false (by omega), cond_false]
      rfl
  | f + 1, c, n, hn, hc => by
    have hs := hc.shrt h
    have hb' : F_spec_l06Run_L1 m (b : Int) (c.State, c.Tapes, (n : Int)) = F_spec_l06Run_L1 m (b : Int) (c.State, c.Tapes, (n : Int)) := rfl
    conv at hb' => rhs; simp only [F_spec_l06Run_L1]
    have e : (⟨c.State, c.Tapes⟩ : GMultiConfig) = c := rfl
    rw [e, mt_ruleS m _ s0 (by have := hs.1; omega), bnd_some_eq, mt_stepSpec m c s0 h hc] at hb'
    rw [runM]
    cases hq : ruleIx m c with
    | none =>
      rw [hq] at hb'
      exact run_done hb'
    | some k =>
      rw [hq] at hb'
      simp only at hb'
      rw [decide_eq_false (by omega), cond_false, decide_eq_false (by omega), cond_false] at hb'
      cases hst : stepC (m.Rules.getD k zM) c with
      | none =>
        rw [hst] at hb'
        simp only [hst]
        simp only [bnd_some_eq] at hb'
        rw [decide_eq_true (by simp), cond_true] at hb'
        exact run_done hb'
      | some c' =>
        rw [hst] at hb'
        simp only [hst]
        simp only [bnd_some_eq] at hb'
        rw [decide_eq_false (by simp), cond_false, w64_nat1 (by omega)] at hb'
        rw [run_next hb']
        exact mt_runS s0 h b hb f c' (n + 1) (by omega) (stepC_ok hc hst)
/-- The round of the program's run: what is done at an end is left open. -/
theorem mt_roundI {m : GMulti} (h : MOk m) {tb : List (Greading × Int)} (hT : TabOk m tb) (c : GMultiConfig) (hc : COk m c) : F_impl_MultiConfig_read c = some (keyM c.State (c.Tapes.map headMT)) ∧ mget tb (keyM c.State (c.Tapes.map headMT)) = (ruleIx m c).map fun (i : Nat) => (i : Int) := by
  have h1 := hc.1
  have t2 := h.t2
  have t3 := h.t3
  exact ⟨mt_read (by omega) (by omega), mt_look h hT c h1⟩
theorem mt_applyC {X : Type} {m : GMulti} (h : MOk m) (c : GMultiConfig) (hc : COk m c) {k : Nat} (hk : k < m.Rules.length) : run (apB (X := X) (c.Tapes.length : Int) m.Rules[k]) (c.Tapes, true, 0) = some (.brk (tapesM c.Tapes m.Rules[k], (tapesM c.Tapes m.Rules[k]).all fitT, (c.Tapes.length : Int))) := by
  obtain ⟨_, hw, hmv⟩ := h.row k hk
  have h1 := hc.1
  exact mt_apply c.Tapes m.Rules[k] (hc.shrt h) (by omega) (by omega)
theorem mt_runI {m : GMulti} (h : MOk m) {tb : List (Greading × Int)} {l : Int} (hT : TabOk m tb) (b : Nat) (hb : b ≤ 20000) : ∀ (f : Nat) (c : GMultiConfig) (n : Nat), n + f = b → COk m c → run (F_impl_RunMulti_L2 m (b : Int) (tb, l)) (c.State, c.Tapes, (n : Int)) = some (.ret (some (runM m f c n)))
  | 0, c, n, hn, hc => by
    obtain rfl : n = b := by omega
    obtain ⟨e1, e2⟩ := mt_roundI h hT c hc
    refine run_done ?_
    simp only [F_impl_RunMulti_L2, F_impl_RunMulti_1, bnd_some_eq]
    have e : (⟨c.State, c.Tapes⟩ : GMultiConfig) = c := rfl
    rw [e, e1, bnd_some_eq, e2, runM]
    cases hq : ruleIx m c with
    | none => rfl
    | some k =>
      simp only [Option.map_some, Option.isSome_some, Bool.not_true, cond_false]
      rfl
  | f + 1, c, n, hn, hc => by
    obtain ⟨e1, e2⟩ := mt_roundI h hT c hc
    have hb' : F_impl_RunMulti_L2 m (b : Int) (tb, l) (c.State, c.Tapes, (n : Int)) = F_impl_RunMulti_L2 m (b : Int) (tb, l) (c.State, c.Tapes, (n : Int)) := rfl
    conv at hb' => rhs; simp only [F_impl_RunMulti_L2, F_impl_RunMulti_1, bnd_some_eq]
    have e : (⟨c.State, c.Tapes⟩ : GMultiConfig) = c := rfl
    rw [e, e1, bnd_some_eq, e2] at hb'
    rw [runM]
    cases hq : ruleIx m c with
    | none =>
      rw [hq] at hb'
      exact run_done hb'
    | some k =>
      have hlt := ruleIx_lt hq
      rw [hq] at hb'
      simp only [Option.map_some, Option.isSome_some, Bool.not_true, cond_false, Option.getD_some] at hb'
      have q : (F_impl_RunMulti_L3 (c.State, c.Tapes, (n : Int)) m.Rules[k] : List GTape × Bool × Int → _) = apB (c.Tapes.length : Int) m.Rules[k] := rfl
      rw [decide_eq_false (by omega), cond_false, idx_nat hlt, bnd_some_eq, q, mt_applyC h c hc hlt, bnd_some_eq] at hb'
      simp only [Out.elim] at hb'
      simp only
      rw [mget_rule hlt]
      cases hst : stepC m.Rules[k] c with
      | none =>
        have hf : (tapesM c.Tapes m.Rules[k]).all fitT = false := by
          unfold stepC at hst
          cases hx : (tapesM c.Tapes m.Rules[k]).all fitT
          · rfl
          · rw [if_pos hx] at hst; cases hst
        rw [hf] at hb'
        simp only [hst]
        exact run_done hb'
      | some c' =>
        simp only [hst]
        have hok := stepC_ok hc hst
        have hf : (tapesM c.Tapes m.Rules[k]).all fitT = true := by
          unfold stepC at hst
          cases hx : (tapesM c.Tapes m.Rules[k]).all fitT
          · rw [hx] at hst; simp at hst
          · rfl
        unfold stepC at hst
        rw [if_pos hf] at hst
        cases hst
        rw [hf, Bool.not_true, cond_false, w64_nat1 (by omega)] at hb'
        rw [run_next hb']
        exact mt_runI h hT b hb f ⟨m.Rules[k].Next, tapesM c.Tapes m.Rules[k]⟩ (n + 1) (by omega) hok
theorem ex_RunMulti (m : GMulti) (c : GMultiConfig) (b : Int) (s0 : Sml m) (s1 : Sml c) : ∃ w : GMultiConfig × Int × Bool × Int, F_spec_RunMulti m c b = some w ∧ F_impl_RunMulti m c b = some w ∧ Med w.1 ∧ Cnt.cnt w.1.Tapes ≤ 1152921504606846976 := by
  unfold F_spec_RunMulti F_impl_RunMulti F_impl_budgetOk
  rw [mt_spec m s0, mt_good m c s1, mt_config m c s0 s1, spec_in, impl_in, bnd_some_eq, bnd_some_eq, bnd_some_eq]
  cases hm : multiB m
  · exact ⟨_, rfl, rfl, fit_nil⟩
  cases hc : confM m c
  · exact ⟨_, rfl, rfl, fit_nil⟩
  cases hb : inB b 1 20000
  · exact ⟨_, rfl, rfl, fit_nil⟩
  have hb2 : 1 ≤ b ∧ b ≤ 20000 := by simpa [inB] using hb
  obtain ⟨b, rfl⟩ : ∃ n : Nat, b = (n : Int) := ⟨b.toNat, by omega⟩
  have h := MOk.of hm
  have hk := confM_ok hc
  have hs := hk.shrt h
  simp only [Bool.not_true, Bool.and_self, cond_false, bnd_some_eq, Out.elim]
  unfold F_spec_l06Run
  rw [mt_ownS c hs, mt_copyI c hs, bnd_some_eq, bnd_some_eq]
  have r1 := mt_runS s0 h b (by omega) b c 0 (by omega) hk
  obtain ⟨tb, ht, hT⟩ := mt_tableG (X := Option (GMultiConfig × Int × Bool × Int)) h
  have r2 := mt_runI h (l := (m.Rules.length : Int)) hT b (by omega) b c 0 (by omega) hk
  rw [show ((0 : Nat) : Int) = 0 from rfl] at r1 r2
  have q : (F_impl_RunMulti_L1 m : List (Greading × Int) × Int → _) = tbB m := rfl
  rw [r1, bnd_some_eq, q, ht, bnd_some_eq]
  simp only [Out.elim, bnd_some_eq]
  rw [r2, bnd_some_eq]
  exact ⟨_, rfl, rfl, runM_fit h b c 0 hk⟩
theorem law_RunMulti (m : GMulti) (c : GMultiConfig) (b : Int) (w0 : Wf.wf m) (w1 : Wf.wf c) (w2 : Wf.wf b) : F_laws_FnExactRunMulti m c b = some true :=
  lawof_RunMulti m c b w0 w1 w2 (ex_RunMulti m c b)
/-! ### TraceMulti -/
def traceM (m : GMulti) : Nat → GMultiConfig → Option (List GMultiConfig)
  | 0, c => some [c]
  | f + 1, c => match ruleIx m c with
    | none => some [c]
    | some k => match stepC (m.Rules.getD k zM) c with
      | none => none
      | some c' => (traceM m f c').map (c :: ·)
theorem traceM_fit {m : GMulti} : ∀ (f : Nat) (c : GMultiConfig) (l : List GMultiConfig), COk m c → traceM m f c = some l → l.length ≤ f + 1 ∧ ∀ x ∈ l, COk m x
  | 0, c, l, hc, hl => by
    rw [traceM] at hl
    cases hl
    exact ⟨by simp, fun x hx => by rw [List.mem_singleton.1 hx]; exact hc⟩
  | f + 1, c, l, hc, hl => by
    rw [traceM] at hl
    split at hl
    · cases hl
      exact ⟨by simp, fun x hx => by rw [List.mem_singleton.1 hx]; exact hc⟩
    · split at hl
      · cases hl
      · rename_i c' hst
        cases ht : traceM m f c' with
        | none => rw [ht] at hl; cases hl
        | some l' =>
          rw [ht] at hl
          cases hl
          obtain ⟨a, b⟩ := traceM_fit f c' l' (stepC_ok hc hst) ht
          refine ⟨by simp; omega, fun x hx => ?_⟩
          rcases List.mem_cons.1 hx with rfl | hx
          · exact hc
          · exact b x hx
def trOut : Option (List GMultiConfig) → List GMultiConfig × Int
  | none => ([], 5)
  | some l => (l, 0)
theorem mt_trS {m : GMulti} (s0 : Sml m) (h : MOk m) : ∀ (f : Nat) (pre : List GMultiConfig) (c : GMultiConfig), pre.length + f ≤ 40 → COk m c → bnd (run (F_spec_TraceMulti_L1 m) ((f : Int), pre ++ [c])) (Out.elim (fun (s18 : Int × (List GMultiConfig)) => some (s18.2, 0)) (fun (r : (List GMultiConfig) × Int) => some r)) = some (trOut ((traceM m f c).map (pre ++ ·)))
  | 0, pre, c, hl, hc => by
    have hb : F_spec_TraceMulti_L1 m (((0 : Nat) : Int), pre ++ [c]) = some (.inr (.brk (((0 : Nat) : Int), pre ++ [c]))) := rfl
    rw [run_done hb, bnd_some_eq]
    rfl
  | f + 1, pre, c, hl, hc => by
    have hs := hc.shrt h
    have hlast : idx (pre ++ [c]) (w64 (((pre ++ [c]).length : Int) - 1)) = some c := by
      rw [w64_in (by simp <;> omega) (by simp <;> omega), show (((pre ++ [c]).length : Int) - 1) = ((pre.length : Nat) : Int) by simp, idx_nat (by simp)]
      simp
    have hb : F_spec_TraceMulti_L1 m (((f + 1 : Nat) : Int), pre ++ [c]) = F_spec_TraceMulti_L1 m (((f + 1 : Nat) : Int), pre ++ [c]) := rfl
    conv at hb => rhs; simp only [F_spec_TraceMulti_L1]
    rw [decide_eq_true (by omega), cond_true, hlast, bnd_some_eq, mt_ruleS m _ s0 (by have := hs.1; omega), bnd_some_eq, mt_stepSpec m c s0 h hc] at hb
    rw [traceM]
    cases hq : ruleIx m c with
    | none =>
      rw [hq] at hb
      rw [run_done hb, bnd_some_eq]
      rfl
    | some k =>
      rw [hq] at hb
      simp only at hb
      rw [decide_eq_false (by omega), cond_false] at hb
      cases hst : stepC (m.Rules.getD k zM) c with
      | none =>
        rw [hst] at hb
        simp only [hst]
        simp only [bnd_some_eq] at hb
        rw [decide_eq_true (by simp), cond_true] at hb
        rw [run_done hb, bnd_some_eq]
        rfl
      | some c' =>
        rw [hst] at hb
        simp only [hst]
        simp only [bnd_some_eq] at hb
        rw [decide_eq_false (by simp), cond_false, app_ok (by simp; omega), bnd_some_eq, w64_in (by omega) (by omega), show (((f + 1 : Nat) : Int) - 1) = ((f : Nat) : Int) by omega] at hb
        rw [run_next hb, mt_trS s0 h f (pre ++ [c]) c' (by simp; omega) (stepC_ok hc hst)]
        cases traceM m f c' with
        | none => rfl
        | some l => simp
theorem mt_trI {m : GMulti} (h : MOk m) {tb : List (Greading × Int)} {l : Int} (hT : TabOk m tb) (b : Nat) (hb : b ≤ 40) : ∀ (f : Nat) (pre : List GMultiConfig) (c : GMultiConfig) (n : Nat), n + f = b → pre.length = n → COk m c → run (F_impl_TraceMulti_L2 m (b : Int) (tb, l)) (c.State, c.Tapes, pre, (n : Int)) = some (.ret (some (trOut ((traceM m f c).map (pre ++ ·)))))
  | 0, pre, c, n, hn, hp, hc => by
    have hs := hc.shrt h
    obtain rfl : n = b := by omega
    obtain ⟨e1, e2⟩ := mt_roundI h hT c hc
    refine run_done ?_
    simp only [F_impl_TraceMulti_L2]
    have e : (⟨c.State, c.Tapes⟩ : GMultiConfig) = c := rfl
    rw [e, mt_copyI c hs, bnd_some_eq, app_ok (by simp; omega), bnd_some_eq, e1, bnd_some_eq, e2]
    cases hq : ruleIx m c with
    | none => rfl
    | some k =>
      simp only [Option.map_some, Option.isSome_some, Bool.not_true, cond_false]
      rfl
  | f + 1, pre, c, n, hn, hp, hc => by
    have hs := hc.shrt h
    obtain ⟨e1, e2⟩ := mt_roundI h hT c hc
    have hb' : F_impl_TraceMulti_L2 m (b : Int) (tb, l) (c.State, c.Tapes, pre, (n : Int)) = F_impl_TraceMulti_L2 m (b : Int) (tb, l) (c.State, c.Tapes, pre, (n : Int)) := rfl
    conv at hb' => rhs; simp only [F_impl_TraceMulti_L2]
    have e : (⟨c.State, c.Tapes⟩ : GMultiConfig) = c := rfl
    rw [e, mt_copyI c hs, bnd_some_eq, app_ok (by simp; omega), bnd_some_eq, e1, bnd_some_eq, e2] at hb'
    rw [traceM]
    cases hq : ruleIx m c with
    | none =>
      rw [hq] at hb'
      exact run_done hb'
    | some k =>
      have hlt := ruleIx_lt hq
      rw [hq] at hb'
      simp only [Option.map_some, Option.isSome_some, Bool.not_true, cond_false, Option.getD_some] at hb'
      have q : (F_impl_TraceMulti_L3 (c.State, c.Tapes, pre, (n : Int)) m.Rules[k] : List GTape × Bool × Int → _) = apB (c.Tapes.length : Int) m.Rules[k] := rfl
      rw [decide_eq_false (by omega), cond_false, idx_nat hlt, bnd_some_eq, q, mt_applyC h c hc hlt, bnd_some_eq] at hb'
      simp only [Out.elim] at hb'
      simp only
      rw [mget_rule hlt]
      cases hst : stepC m.Rules[k] c with
      | none =>
        have hf : (tapesM c.Tapes m.Rules[k]).all fitT = false := by
          unfold stepC at hst
          cases hx : (tapesM c.Tapes m.Rules[k]).all fitT
          · rfl
          · rw [if_pos hx] at hst; cases hst
        rw [hf] at hb'
        simp only [hst]
        exact run_done hb'
      | some c' =>
        simp only [hst]
        have hok := stepC_ok hc hst
        have hf : (tapesM c.Tapes m.Rules[k]).all fitT = true := by
          unfold stepC at hst
          cases hx : (tapesM c.Tapes m.Rules[k]).all fitT
          · rw [hx] at hst; simp at hst
          · rfl
        unfold stepC at hst
        rw [if_pos hf] at hst
        cases hst
        rw [hf, Bool.not_true, cond_false, w64_nat1 (by omega)] at hb'
        rw [run_next hb', mt_trI h hT b hb f (pre ++ [c]) ⟨m.Rules[k].Next, tapesM c.Tapes m.Rules[k]⟩ (n + 1) (by omega) (by simp; omega) hok]
        cases traceM m f ⟨m.Rules[k].Next, tapesM c.Tapes m.Rules[k]⟩ with
        | none => rfl
        | some l => simp
theorem ex_TraceMulti (m : GMulti) (c : GMultiConfig) (b : Int) (s0 : Sml m) (s1 : Sml c) : ∃ w : (List GMultiConfig) × Int, F_spec_TraceMulti m c b = some w ∧ F_impl_TraceMulti m c b = some w ∧ Med w.1 ∧ Cnt.cnt w.1 ≤ 1152921504606846976 := by
  have nil : ∀ k : Int, Med ((([] : List GMultiConfig), k) : List GMultiConfig × Int).1 ∧ Cnt.cnt ((([] : List GMultiConfig), k) : List GMultiConfig × Int).1 ≤ 1152921504606846976 := fun k => ⟨⟨by simp, by simp⟩, by show Cnt.cnt ([] : List GMultiConfig) ≤ _; decide⟩
  unfold F_spec_TraceMulti F_impl_TraceMulti
  rw [mt_spec m s0, mt_good m c s1, mt_config m c s0 s1, spec_in, impl_in, bnd_some_eq, bnd_some_eq, bnd_some_eq]
  cases hm : multiB m
  · exact ⟨_, rfl, rfl, nil _⟩
  cases hc : confM m c
  · exact ⟨_, rfl, rfl, nil _⟩
  cases hb : inB b 0 40
  · exact ⟨_, rfl, rfl, nil _⟩
  have hb2 : 0 ≤ b ∧ b ≤ 40 := by simpa [inB] using hb
  obtain ⟨b, rfl⟩ : ∃ n : Nat, b = (n : Int) := ⟨b.toNat, by omega⟩
  have h := MOk.of hm
  have hk := confM_ok hc
  have hs := hk.shrt h
  simp only [Bool.not_true, Bool.and_self, cond_false, bnd_some_eq, Out.elim]
  rw [mt_ownS c hs, mt_copyI c hs, bnd_some_eq, bnd_some_eq]
  have r1 := mt_trS s0 h b [] c (by simp; omega) hk
  obtain ⟨tb, ht, hT⟩ := mt_tableG (X := Option ((List GMultiConfig) × Int)) h
  have r2 := mt_trI h (l := (m.Rules.length : Int)) hT b (by omega) b [] c 0 (by omega) rfl hk
  rw [show ((0 : Nat) : Int) = 0 from rfl] at r2
  have q : (F_impl_TraceMulti_L1 m : List (Greading × Int) × Int → _) = tbB m := rfl
  rw [List.nil_append] at r1
  refine ⟨trOut ((traceM m b c).map (([] : List GMultiConfig) ++ ·)), r1, ?_, ?_⟩
  · rw [q, ht, bnd_some_eq]
    simp only [Out.elim]
    rw [r2, bnd_some_eq]
    rfl
  · cases htr : traceM m b c with
    | none => exact nil 5
    | some l =>
      obtain ⟨a, d⟩ := traceM_fit b c l hk htr
      have hx : ∀ x ∈ l, Med x ∧ Cnt.cnt x ≤ 1201 := fun x hx => by
        have := (d x hx).shrt h
        obtain ⟨a1, a2⟩ := fit_tapes this.1 this.2
        refine ⟨a1, ?_⟩
        show 1 + Cnt.cnt x.Tapes ≤ 1201
        omega
      exact ⟨⟨by show l.length ≤ _; omega, fun x hx' => (hx x hx').1⟩, Nat.le_trans (cnt_le (n := 41) (m := 1201) (show l.length ≤ 41 by omega) fun x hx' => (hx x hx').2) (by decide)⟩
theorem law_TraceMulti (m : GMulti) (c : GMultiConfig) (b : Int) (w0 : Wf.wf m) (w1 : Wf.wf c) (w2 : Wf.wf b) : F_laws_FnExactTraceMulti m c b = some true :=
  lawof_TraceMulti m c b w0 w1 w2 (ex_TraceMulti m c b)
end Go.Fn
