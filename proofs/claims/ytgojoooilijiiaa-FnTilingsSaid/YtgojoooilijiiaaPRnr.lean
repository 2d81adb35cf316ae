/-
  Machines run by the runner: its sides are turned round; the plain law of FnRuns. No program in sight. No condition.
-/
import Derived.Test.YtgojoooilijiiaaPMDraw
namespace Go.Fn
open Go Go.Tc
/-! ### The runner -/
def rnr (m : GMachine) (c : GConfig) : Grunner := ⟨m.Symbols, m.States, m.Rules, c.State, c.Left.reverse, c.Right.reverse⟩
/-- A side without blanks at its far end. -/
def Tm (xs : List Int) : Prop := trimL xs = xs
theorem trimL_idem : ∀ (n : Nat) (xs : List Int), xs.length = n → trimL (trimL xs) = trimL xs := by
  intro n
  induction n with
  | zero =>
    intro xs hn
    obtain rfl := List.eq_nil_of_length_eq_zero hn
    rfl
  | succ n ih =>
    intro xs hn
    rcases snoc_cases xs with rfl | ⟨ys, y, rfl⟩
    · simp at hn
    · rw [trimL_snoc]
      by_cases h : y = 0
      · rw [if_pos h]
        exact ih ys (by simpa using hn)
      · rw [if_neg h, trimL_snoc, if_neg h]
theorem Tm.trim (xs : List Int) : Tm (trimL xs) := trimL_idem _ xs rfl
theorem Tm.nil : Tm [] := rfl
theorem Tm.of_side {s : Int} {xs : List Int} (h : sideB s xs = true) : Tm xs := by
  rcases snoc_cases xs with rfl | ⟨ys, y, rfl⟩
  · rfl
  · unfold sideB at h
    simp only [Bool.and_eq_true, Bool.or_eq_true, decide_eq_true_eq] at h
    have h0 : y ≠ 0 := by
      have := h.2
      simpa using this
    unfold Tm
    rw [trimL_snoc, if_neg h0]
theorem Tm.last {xs : List Int} (h : Tm xs) : (decide (xs.length = 0) || decide (xs.getLastD 0 ≠ 0)) = true := by
  rcases snoc_cases xs with rfl | ⟨ys, y, rfl⟩
  · rfl
  · unfold Tm at h
    rw [trimL_snoc] at h
    by_cases h0 : y = 0
    · rw [if_pos h0] at h
      have := trimL_len ys
      rw [h] at this
      simp at this
      omega
    · simp [h0]
theorem Tm.cons {xs : List Int} (h : Tm xs) (x : Int) : trimL (x :: xs) = if x = 0 ∧ xs = [] then [] else x :: xs := by
  rcases snoc_cases xs with rfl | ⟨ys, y, rfl⟩
  · have := trimL_snoc [] x
    rw [List.nil_append] at this
    rw [this]
    by_cases h0 : x = 0
    · rw [if_pos h0, if_pos ⟨h0, rfl⟩]; rfl
    · rw [if_neg h0, if_neg (fun e => h0 e.1)]
  · have h1 := h.last
    have h0 : y ≠ 0 := by simpa using h1
    rw [← List.cons_append, trimL_snoc, if_neg h0, if_neg (fun e => by simp at e)]
theorem Tm.tail {xs : List Int} (h : Tm xs) : Tm xs.tail := by
  cases xs with
  | nil => rfl
  | cons x l =>
    rcases snoc_cases l with rfl | ⟨ys, y, rfl⟩
    · rfl
    · unfold Tm at h
      rw [← List.cons_append, trimL_snoc] at h
      have h0 : y ≠ 0 := by
        intro e
        rw [if_pos e] at h
        have := trimL_len (x :: ys)
        rw [h] at this
        simp at this
        omega
      show trimL (ys ++ [y]) = ys ++ [y]
      rw [trimL_snoc, if_neg h0]
theorem impl_nearest (xs : List Int) (h : xs.length ≤ 1048576) : F_impl_nearest xs.reverse = some (xs.getD 0 0) := by
  unfold F_impl_nearest
  cases xs with
  | nil => rfl
  | cons x l =>
    rw [List.reverse_cons, idx_snoc _ _ (by simp at h ⊢; omega), decide_eq_false (by simp; omega), cond_false]
    rfl
theorem impl_popR (xs : List Int) (h : xs.length ≤ 1048576) : slc xs.reverse 0 (if (w64 ((xs.reverse.length : Int) - 1)) > 0 then (w64 ((xs.reverse.length : Int) - 1)) else 0) = some xs.tail.reverse := by
  cases xs with
  | nil => rfl
  | cons x l =>
    have hl : l.length < 1048576 := by simp at h; omega
    have e : w64 (((x :: l).reverse.length : Int) - 1) = (l.length : Int) := by
      rw [List.length_reverse, List.length_cons, w64_in (by omega) (by omega)]
      omega
    rw [e]
    have e2 : (if (l.length : Int) > 0 then (l.length : Int) else 0) = ((l.length : Nat) : Int) := by
      split <;> omega
    rw [e2, slc0 (by simp), List.reverse_cons]
    congr 1
    rw [List.take_left' (by simp)]
    rfl
def pushR (xs : List Int) (x : Int) : List Int := if x = 0 ∧ xs = [] then [] else x :: xs
/-- The rule under the head. -/
theorem impl_ruleR {m : GMachine} {s q N : Nat} (M : MaI m s q) {c : GConfig} (h : CfI s q N c) (hN : N ≤ 1000) : F_impl_runner_rule (rnr m c) = some (ruleAt m c) := by
  have hr := h.rl
  unfold F_impl_runner_rule F_impl_runner_at F_impl_runner_symbol rnr
  simp only
  rw [impl_nearest _ (by omega)]
  simp only [bnd_some_eq]
  rw [(ruleAt_idx M h).1, bnd_some_eq]
theorem impl_haltsR {m : GMachine} {s q N : Nat} (M : MaI m s q) {c : GConfig} (h : CfI s q N c) (hN : N ≤ 1000) : F_impl_runner_halts (rnr m c) = some (decide (ruleAt m c = noR)) := by
  unfold F_impl_runner_halts
  rw [impl_ruleR M h hN, bnd_some_eq, impl_isRule, bnd_some_eq, Bool.not_not]
theorem impl_configR (m : GMachine) (c : GConfig) (h1 : c.Left.length ≤ 1048576) (h2 : c.Right.length ≤ 1048576) : F_impl_runner_config (rnr m c) = some c := by
  unfold F_impl_runner_config rnr
  simp only
  rw [impl_reversed _ (by simpa using h1), impl_reversed _ (by simpa using h2)]
  simp only [bnd_some_eq, List.reverse_reverse]
def small (c : GConfig) : Bool := decide (c.Left.length ≤ 200) && decide (c.Right.length ≤ 200)
theorem impl_stepR {m : GMachine} {s q N : Nat} (M : MaI m s q) {c : GConfig} (h : CfI s q N c) (hN : N ≤ 1000) (hL : Tm c.Left) (hR : Tm c.Right) :
    F_impl_runner_step (rnr m c) = some (small (stepC (ruleAt m c) c), ((stepC (ruleAt m c) c).State, (stepC (ruleAt m c) c).Left.reverse, (stepC (ruleAt m c) c).Right.reverse)) := by
  have hl := h.ll
  have hr := h.rl
  have ht : c.Right.tail.length ≤ c.Right.length := by simp
  have pushE : ∀ (xs : List Int) (x : Int), xs.length ≤ 2000 → (cond (decide (x = 0)) (cond (decide ((xs.reverse.length : Int) = 0)) (some xs.reverse) (app xs.reverse [x])) (app xs.reverse [x])) = some (pushR xs x).reverse := by
    intro xs x hx
    unfold pushR
    rw [app_ok (by simp; omega)]
    by_cases h0 : x = 0
    · rw [decide_eq_true h0, cond_true]
      cases xs with
      | nil => rw [if_pos ⟨h0, rfl⟩]; rfl
      | cons y l =>
        rw [decide_eq_false (by simp; omega), cond_false, if_neg (fun e => by simp at e), List.reverse_cons]
        simp
    · rw [decide_eq_false h0, cond_false, if_neg (fun e => h0 e.1), List.reverse_cons]
  unfold F_impl_runner_step
  rw [impl_ruleR M h hN, bnd_some_eq]
  generalize ruleAt m c = r
  show bnd (slc c.Right.reverse 0 (if (w64 ((c.Right.reverse.length : Int) - 1)) > 0 then (w64 ((c.Right.reverse.length : Int) - 1)) else 0)) _ = _
  rw [impl_popR _ (by omega), bnd_some_eq]
  unfold rnr stepC
  simp only
  by_cases hm : 0 < r.Move
  · rw [decide_eq_true hm, cond_true, if_pos hm, hL.cons]
    have hp := pushE c.Left r.Write (by omega)
    unfold pushR at hp
    generalize (if r.Write = 0 ∧ c.Left = [] then ([] : List Int) else r.Write :: c.Left) = L' at hp
    have e : (cond (decide (r.Write = 0)) (cond (decide ((c.Left.reverse.length : Int) = 0)) (some (.brk (c.Left.reverse, c.Right.tail.reverse))) (bnd (app c.Left.reverse ([r.Write] : List Int)) fun z19 => some (.brk (z19, c.Right.tail.reverse)))) (bnd (app c.Left.reverse ([r.Write] : List Int)) fun z23 => some (.brk (z23, c.Right.tail.reverse))) : Option (Out ((List Int) × (List Int)) ((Bool) × (Int × (List Int) × (List Int))))) = some (.brk (L'.reverse, c.Right.tail.reverse)) := by
      have hp' := congrArg (fun o => bnd o fun z => (some (Out.brk (z, c.Right.tail.reverse)) : Option (Out ((List Int) × (List Int)) ((Bool) × (Int × (List Int) × (List Int)))))) hp
      rw [bnd_some_eq] at hp'
      rw [← hp']
      cases decide (r.Write = 0)
      · rfl
      · cases decide ((c.Left.reverse.length : Int) = 0) <;> rfl
    rw [e, bnd_some_eq]
    simp only [Out.elim, List.length_reverse, small]
    by_cases g1 : L'.length ≤ 200
    · rw [decide_eq_true (by omega), cond_true, decide_eq_true g1, Bool.true_and]
      congr 2
      rw [decide_eq_decide]
      omega
    · rw [decide_eq_false (by omega), cond_false, decide_eq_false g1, Bool.false_and]
  · rw [decide_eq_false hm, cond_false, if_neg hm]
    have h1 := pushE c.Right.tail r.Write (by omega)
    have k1 := hR.tail.cons r.Write
    have t1 : Tm (trimL (r.Write :: c.Right.tail)) := Tm.trim _
    have k2 := t1.cons (c.Left.getD 0 0)
    have l1 : (trimL (r.Write :: c.Right.tail)).length ≤ c.Right.tail.length + 1 := trimL_len _
    unfold pushR at h1
    rw [← k1] at h1
    have h2 := pushE (trimL (r.Write :: c.Right.tail)) (c.Left.getD 0 0) (by omega)
    unfold pushR at h2
    rw [← k2] at h2
    generalize trimL (c.Left.getD 0 0 :: trimL (r.Write :: c.Right.tail)) = R2 at h2
    generalize trimL (r.Write :: c.Right.tail) = R1 at h1 h2
    rw [impl_nearest _ (by omega)]
    generalize c.Left.getD 0 0 = y at h2
    simp only [bnd_some_eq]
    have e : (cond (decide (r.Write = 0)) (cond (decide ((c.Right.tail.reverse.length : Int) = 0)) (cond (decide (y = 0)) (some (.brk c.Right.tail.reverse)) (bnd (app c.Right.tail.reverse ([y] : List Int)) fun z41 => some (.brk z41))) (bnd (app c.Right.tail.reverse ([r.Write] : List Int)) fun z45 => (cond (decide (y = 0)) (cond (decide ((z45.length : Int) = 0)) (some (.brk z45)) (bnd (app z45 ([y] : List Int)) fun z55 => some (.brk z55))) (bnd (app z45 ([y] : List Int)) fun z59 => some (.brk z59))))) (bnd (app c.Right.tail.reverse ([r.Write] : List Int)) fun z63 => (cond (decide (y = 0)) (cond (decide ((z63.length : Int) = 0)) (some (.brk z63)) (bnd (app z63 ([y] : List Int)) fun z73 => some (.brk z73))) (bnd (app z63 ([y] : List Int)) fun z77 => some (.brk z77)))) : Option (Out ((List Int)) ((Bool) × (Int × (List Int) × (List Int))))) = some (.brk R2.reverse) := by
      have two : ∀ z : List Int, z = R1.reverse → (cond (decide (y = 0)) (cond (decide ((z.length : Int) = 0)) (some (.brk z)) (bnd (app z ([y] : List Int)) fun z55 => some (.brk z55))) (bnd (app z ([y] : List Int)) fun z59 => some (.brk z59)) : Option (Out ((List Int)) ((Bool) × (Int × (List Int) × (List Int))))) = some (.brk R2.reverse) := by
        intro z hz
        subst hz
        have hp' := congrArg (fun o => bnd o fun z => (some (Out.brk z) : Option (Out (List Int) ((Bool) × (Int × (List Int) × (List Int)))))) h2
        rw [bnd_some_eq] at hp'
        rw [← hp']
        cases decide (y = 0)
        · rfl
        · cases decide ((R1.reverse.length : Int) = 0) <;> rfl
      by_cases w0 : r.Write = 0
      · rw [decide_eq_true w0] at h1 ⊢
        simp only [cond_true] at h1 ⊢
        by_cases w1 : (c.Right.tail.reverse.length : Int) = 0
        · rw [decide_eq_true w1] at h1 ⊢
          simp only [cond_true] at h1 ⊢
          have := two c.Right.tail.reverse (Option.some.inj h1)
          rw [decide_eq_true w1] at this
          exact this
        · rw [decide_eq_false w1] at h1 ⊢
          simp only [cond_false] at h1 ⊢
          rw [h1, bnd_some_eq]
          exact two _ rfl
      · rw [decide_eq_false w0] at h1 ⊢
        simp only [cond_false] at h1 ⊢
        rw [h1, bnd_some_eq]
        exact two _ rfl
    rw [e, bnd_some_eq]
    simp only [Out.elim]
    rw [impl_popR _ (by omega), bnd_some_eq, bnd_some_eq]
    simp only [Out.elim, List.length_reverse, small]
    by_cases g1 : c.Left.tail.length ≤ 200
    · rw [decide_eq_true (by omega), cond_true, decide_eq_true g1, Bool.true_and]
      congr 2
      rw [decide_eq_decide]
      omega
    · rw [decide_eq_false (by omega), cond_false, decide_eq_false g1, Bool.false_and]
/-! ### Runs -/
structure CfT (s q : Nat) (c : GConfig) : Prop where
  cf : CfI s q 200 c
  lt : Tm c.Left
  rt : Tm c.Right
theorem CfT.of {m : GMachine} {s q : Nat} (M : MaI m s q) {c : GConfig} (h : confB m c = true) : CfT s q c := by
  have h' := h
  unfold confB at h'
  simp only [Bool.and_eq_true] at h'
  exact ⟨confB_cfi M h, Tm.of_side h'.2.1, Tm.of_side h'.2.2⟩
theorem Tm.step (r : GRule) {c : GConfig} (hL : Tm c.Left) (hR : Tm c.Right) : Tm (stepC r c).Left ∧ Tm (stepC r c).Right := by
  unfold stepC
  split
  · exact ⟨Tm.trim _, hR.tail⟩
  · exact ⟨hL.tail, Tm.trim _⟩
theorem CfT.step {m : GMachine} {s q : Nat} (M : MaI m s q) {c : GConfig} (h : CfT s q c) (hn : ruleAt m c ≠ noR) (hs : small (stepC (ruleAt m c) c) = true) : CfT s q (stepC (ruleAt m c) c) := by
  obtain ⟨w1, _, w3⟩ := rule_in M (ruleAt_idx M h.cf).2 hn
  have h1 := h.cf.step w1 w3
  have h2 := Tm.step (ruleAt m c) h.lt h.rt
  unfold small at hs
  simp only [Bool.and_eq_true, decide_eq_true_eq] at hs
  exact ⟨⟨h1.st, h1.lf, h1.rt, hs.1, hs.2⟩, h2.1, h2.2⟩
def traceM (m : GMachine) : Nat → GConfig → Option (List GConfig)
  | 0, c => some [c]
  | n + 1, c => if ruleAt m c = noR then some [c] else if small (stepC (ruleAt m c) c) = true then (traceM m n (stepC (ruleAt m c) c)).map fun r => c :: r else none
theorem machB_sml {m : GMachine} (h : machB m = true) : Sml m := by
  obtain ⟨s, q, M⟩ := machB_mai h
  have h1 := M.hl
  have h2 := M.b5
  exact ⟨by omega, fun _ _ => trivial⟩
theorem confB_sml {m : GMachine} {c : GConfig} (h : confB m c = true) : Sml c := by
  have := confB_len h
  exact ⟨⟨by omega, fun _ _ => trivial⟩, ⟨by omega, fun _ _ => trivial⟩⟩
theorem impl_runnerOf {m : GMachine} {c : GConfig} (h : confB m c = true) : F_impl_runnerOf m c = some (m.Symbols, m.States, m.Rules, c.State, c.Left.reverse, c.Right.reverse) := by
  have := confB_len h
  unfold F_impl_runnerOf
  rw [impl_reversed _ (by omega), impl_reversed _ (by omega)]
  rfl
theorem run_traceM {m : GMachine} {s q : Nat} (M : MaI m s q) (c0 : GConfig) : ∀ (n j : Nat) (c : GConfig) (out : List GConfig), CfT s q c → n + j ≤ 1000000 → out.length + n ≤ 1000000 →
    ∃ x, run (F_impl_traceOf_L1 ((n + j : Nat) : Int) (m.Symbols, m.States, m.Rules, c0.State, c0.Left.reverse, c0.Right.reverse)) (c.State, c.Left.reverse, c.Right.reverse, (j : Int), out) = some x ∧
      match traceM m n c with
      | none => x = .ret (some ([], 5))
      | some l => ∃ t, x = .brk t ∧ t.2.2.2.2 = out ++ l := by
  intro n
  induction n with
  | zero =>
    intro j c out h hj ho
    have hcf : F_impl_runner_config ⟨m.Symbols, m.States, m.Rules, c.State, c.Left.reverse, c.Right.reverse⟩ = some c := impl_configR m c (by have := h.cf.ll; omega) (by have := h.cf.rl; omega)
    refine ⟨.brk (c.State, c.Left.reverse, c.Right.reverse, (j : Int), out ++ [c]), run_done ?_, _, rfl, rfl⟩
    simp only [F_impl_traceOf_L1]
    rw [hcf, bnd_some_eq, app_ok (by simp; omega), bnd_some_eq, decide_eq_false (by omega), cond_false]
  | succ n ih =>
    intro j c out h hj ho
    have hcf : F_impl_runner_config ⟨m.Symbols, m.States, m.Rules, c.State, c.Left.reverse, c.Right.reverse⟩ = some c := impl_configR m c (by have := h.cf.ll; omega) (by have := h.cf.rl; omega)
    have hh : F_impl_runner_halts ⟨m.Symbols, m.States, m.Rules, c.State, c.Left.reverse, c.Right.reverse⟩ = some (decide (ruleAt m c = noR)) := impl_haltsR M h.cf (by omega)
    have hs : F_impl_runner_step ⟨m.Symbols, m.States, m.Rules, c.State, c.Left.reverse, c.Right.reverse⟩ = _ := impl_stepR M h.cf (by omega) h.lt h.rt
    unfold traceM
    by_cases hn : ruleAt m c = noR
    · rw [if_pos hn]
      refine ⟨.brk (c.State, c.Left.reverse, c.Right.reverse, (j : Int), out ++ [c]), run_done ?_, _, rfl, rfl⟩
      simp only [F_impl_traceOf_L1]
      rw [hcf, bnd_some_eq, app_ok (by simp; omega), bnd_some_eq, decide_eq_true (by omega), cond_true, hh, bnd_some_eq, decide_eq_true hn, Bool.not_true, cond_false]
    · rw [if_neg hn]
      by_cases hk : small (stepC (ruleAt m c) c) = true
      · rw [if_pos hk]
        have hb : F_impl_traceOf_L1 ((n + 1 + j : Nat) : Int) (m.Symbols, m.States, m.Rules, c0.State, c0.Left.reverse, c0.Right.reverse) (c.State, c.Left.reverse, c.Right.reverse, (j : Int), out) = some (.inl ((stepC (ruleAt m c) c).State, (stepC (ruleAt m c) c).Left.reverse, (stepC (ruleAt m c) c).Right.reverse, ((j + 1 : Nat) : Int), out ++ [c])) := by
          simp only [F_impl_traceOf_L1]
          rw [hcf, bnd_some_eq, app_ok (by simp; omega), bnd_some_eq, decide_eq_true (by omega), cond_true, hh, bnd_some_eq, decide_eq_false hn, Bool.not_false, cond_true, hs, bnd_some_eq, hk, w64_nat1 (by omega)]
          rfl
        rw [run_next hb]
        have := ih (j + 1) (stepC (ruleAt m c) c) (out ++ [c]) (h.step M hn hk) (by omega) (by simp; omega)
        rw [show n + (j + 1) = n + 1 + j by omega] at this
        obtain ⟨x, hx, hm⟩ := this
        refine ⟨x, hx, ?_⟩
        cases hg : traceM m n (stepC (ruleAt m c) c) with
        | none => rw [hg] at hm; exact hm
        | some l =>
          rw [hg] at hm
          obtain ⟨t, h1, h2⟩ := hm
          exact ⟨t, h1, by rw [h2]; simp⟩
      · rw [if_neg hk]
        have hk' : small (stepC (ruleAt m c) c) = false := by simpa using hk
        refine ⟨_, run_done ?_, rfl⟩
        simp only [F_impl_traceOf_L1]
        rw [hcf, bnd_some_eq, app_ok (by simp; omega), bnd_some_eq, decide_eq_true (by omega), cond_true, hh, bnd_some_eq, decide_eq_false hn, Bool.not_false, cond_true, hs, bnd_some_eq, hk']
        rfl
theorem impl_trace {m : GMachine} (hm : machB m = true) {c : GConfig} (hc : confB m c = true) {n : Nat} (h2 : n ≤ 60) :
    F_impl_TraceMachine m c (n : Int) = some (match traceM m n c with
      | none => ([], 5)
      | some l => (l, 0)) := by
  obtain ⟨s, q, M⟩ := machB_mai hm
  have hT := CfT.of M hc
  unfold F_impl_TraceMachine
  rw [impl_confV m c (machB_sml hm) (confB_sml hc), bnd_some_eq, hm, hc, impl_in, show inB (n : Int) 0 60 = true from inB_iff.2 (by omega)]
  simp only [bnd_some_eq, Bool.and_self, Bool.not_true, cond_false]
  obtain ⟨x, hx, hg⟩ := run_traceM M c n 0 c [] hT (by omega) (by simp; omega)
  rw [Nat.add_zero, show ((0 : Nat) : Int) = 0 from rfl] at hx
  unfold F_impl_traceOf
  rw [impl_runnerOf hc, bnd_some_eq]
  simp only
  rw [hx, bnd_some_eq]
  cases hgo : traceM m n c with
  | none =>
    rw [hgo] at hg
    simp only at hg
    subst hg
    rfl
  | some l =>
    rw [hgo] at hg
    obtain ⟨t, rfl, h2⟩ := hg
    rw [List.nil_append] at h2
    simp only [Out.elim, bnd_some_eq, h2]

/-! ### The law -/
theorem r8_same (xs : List Int) (h : xs.length ≤ 1048576) : F_laws_r8Same xs xs = some true := by
  unfold F_laws_r8Same
  rw [decide_eq_false (by simp), cond_false, run_allp xs (by omega) (fun _ => true) (.ret false) (.brk (xs.length : Int)) (fun i hi => by
    simp only [F_laws_r8Same_L1, Int.ofNat_lt, hi, decide_true, cond_true, idx_nat hi, bnd_some_eq]
    rw [decide_eq_false (by simp), cond_false]) (by simp [F_laws_r8Same_L1])]
  have e : (xs.all fun _ => true) = true := by simp
  rw [e]
  rfl
theorem r8_config (c : GConfig) (h1 : c.Left.length ≤ 1048576) (h2 : c.Right.length ≤ 1048576) : F_laws_r8Config c c = some true := by
  unfold F_laws_r8Config
  rw [decide_eq_true rfl, cond_true, r8_same _ h1, bnd_some_eq, cond_true, r8_same _ h2, bnd_some_eq]
theorem r8_long (c d : List (Ik .u8)) : F_laws_r8Long c d = some (decide (1048576 < c.length) || decide (1048576 < d.length)) := by
  unfold F_laws_r8Long
  by_cases h : 1048576 < c.length
  · rw [decide_eq_true (by omega), cond_true, decide_eq_true h, Bool.true_or]
  · rw [decide_eq_false (by omega), cond_false, decide_eq_false h, Bool.false_or]
    congr 1
    rw [decide_eq_decide]
    omega
theorem r8_at {c : List (Ik .u8)} (h : Bytes c) (k : Nat) {n : Int} (hn : 1 ≤ n) : ∃ v, F_laws_r8At c (k : Int) n = some v ∧ 0 ≤ v ∧ v < n := by
  unfold F_laws_r8At
  by_cases h1 : n ≤ 1
  · rw [decide_eq_true h1, cond_true]
    exact ⟨0, rfl, by omega, by omega⟩
  rw [decide_eq_false h1, cond_false]
  by_cases h2 : c.length ≤ k
  · rw [decide_eq_true (by omega), cond_true]
    exact ⟨0, rfl, by omega, by omega⟩
  · have hlt : k < c.length := by omega
    have hv := h.2 _ (List.getElem_mem hlt)
    rw [decide_eq_false (by omega), cond_false, idx_nat hlt, bnd_some_eq, nz_src (by omega), bnd_some_eq, w64_in (by omega) (by omega), Int.tmod_eq_emod_of_nonneg hv.1]
    exact ⟨_, rfl, Int.emod_nonneg _ (by omega), Int.emod_lt_of_pos _ (by omega)⟩
end Go.Fn
