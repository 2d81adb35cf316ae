/-
  Machines run by the runner: its sides are turned round; the plain law of FnRuns. No program in sight. No condition.
-/
import Derived.Test.YtabpcmbohmodnaaPMDraw
import Derived.Test.YtabpcmbohmodnaaPR8
namespace Go.Fn
open Go Go.Tc
/-! ### The runner -/
def rnr (m : GMachine) (c : GConfig) : Grunner := ⟨m.Symbols, m.States, m.Rules, c.State, c.Left.reverse, c.Right.reverse⟩
/-- A side without blanks at its far end. -/
def Tm (xs : List Int) : Prop := trimL xs = xs
theorem trimL_idem : ∀ (n : Nat) (xs : List Int), xs.length = n → trimL (trimL xs) = trimL xs := by
  intro n
  induction n with
  | zero =>
    intro xs hn
    obtain rfl := List.eq_nil_of_length_eq_zero hn
    rfl
  | succ n ih =>
    intro xs hn
    rcases snoc_cases xs with rfl | ⟨ys, y, rfl⟩
    · simp at hn
    · rw [trimL_snoc]
      by_cases h : y = 0
      · rw [if_pos h]
        exact ih ys (by simpa using hn)
      · rw [if_neg h, trimL_snoc, if_neg h]
theorem Tm.trim (xs : List Int) : Tm (trimL xs) := trimL_idem _ xs rfl
theorem Tm.nil : Tm [] := rfl
theorem Tm.of_side {s : Int} {xs : List Int} (h : sideB s xs = true) : Tm xs := by
  rcases snoc_cases xs with rfl | ⟨ys, y, rfl⟩
  · rfl
  · unfold sideB at h
    simp only [Bool.and_eq_true, Bool.or_eq_true, decide_eq_true_eq] at h
    have h0 : y ≠ 0 := by
      have := h.2
      simpa using this
    unfold Tm
    rw [trimL_snoc, if_neg h0]
theorem Tm.last {xs : List Int} (h : Tm xs) : (decide (xs.length = 0) || decide (xs.getLastD 0 ≠ 0)) = true := by
  rcases snoc_cases xs with rfl | ⟨ys, y, rfl⟩
  · rfl
  · unfold Tm at h
    rw [trimL_snoc] at h
    by_cases h0 : y = 0
    · rw [if_pos h0] at h
      have := trimL_len ys
      rw [h] at this
      simp at this
      omega
    · simp [h0]
theorem Tm.cons {xs : List Int} (h : Tm xs) (x : Int) : trimL (x :: xs) = if x = 0 ∧ xs = [] then [] else x :: xs := by
  rcases snoc_cases xs with rfl | ⟨ys, y, rfl⟩
  · have := trimL_snoc [] x
    rw [List.nil_append] at this
    rw [this]
    by_cases h0 : x = 0
    · rw [if_pos h0, if_pos ⟨h0, rfl⟩]; rfl
    · rw [if_neg h0, if_neg (fun e => h0 e.1)]
  · have h1 := h.last
    have h0 : y ≠ 0 := by simpa using h1
    rw [← List.cons_append, trimL_snoc, if_neg h0, if_neg (fun e => by simp at e)]
theorem Tm.tail {xs : List Int} (h : Tm xs) : Tm xs.tail := by
  cases xs with
  | nil => rfl
  | cons x l =>
    rcases snoc_cases l with rfl | ⟨ys, y, rfl⟩
    · rfl
    · unfold Tm at h
      rw [← List.cons_append, trimL_snoc] at h
      have h0 : y ≠ 0 := by
        intro e
        rw [if_pos e] at h
        have := trimL_len (x :: ys)
        rw [h] at this
        simp at this
        omega
      show trimL (ys ++ [y]) = ys ++ [y]
      rw [trimL_snoc, if_neg h0]
theorem impl_nearest (xs : List Int) (h : xs.length ≤ 1048576) : F_impl_nearest xs.reverse = some (xs.getD 0 0) := by
  unfold F_impl_nearest
  cases xs with
  | nil => rfl
  | cons x l =>
    rw [List.reverse_cons, idx_snoc _ _ (by simp at h ⊢; omega), decide_eq_false (by simp; omega), cond_false]
    rfl
theorem impl_popR (xs : List Int) (h : xs.length ≤ 1048576) : slc xs.reverse 0 (if (w64 ((xs.reverse.length : Int) - 1)) > 0 then (w64 ((xs.reverse.length : Int) - 1)) else 0) = some xs.tail.reverse := by
  cases xs with
  | nil => rfl
  | cons x l =>
    have hl : l.length < 1048576 := by simp at h; omega
    have e : w64 (((x :: l).reverse.length : Int) - 1) = (l.length : Int) := by
      rw [List.length_reverse, List.length_cons, w64_in (by omega) (by omega)]
      omega
    rw [e]
    have e2 : (if (l.length : Int) > 0 then (l.length : Int) else 0) = ((l.length : Nat) : Int) := by
      split <;> omega
    rw [e2, slc0 (by simp), List.reverse_cons]
    congr 1
    rw [List.take_left' (by simp)]
    rfl
def pushR (xs : List Int) (x : Int) : List Int := if x = 0 ∧ xs = [] then [] else x :: xs
/-- The rule under the head. -/
theorem impl_ruleR {m : GMachine} {s q N : Nat} (M : MaI m s q) {c : GConfig} (h : CfI s q N c) (hN : N ≤ 1000) : F_impl_runner_rule (rnr m c) = some (ruleAt m c) := by
  have hr := h.rl
  unfold F_impl_runner_rule F_impl_runner_at F_impl_runner_symbol rnr
  simp only
  rw [impl_nearest _ (by omega)]
  simp only [bnd_some_eq]
  rw [(ruleAt_idx M h).1, bnd_some_eq]
theorem impl_haltsR {m : GMachine} {s q N : Nat} (M : MaI m s q) {c : GConfig} (h : CfI s q N c) (hN : N ≤ 1000) : F_impl_runner_halts (rnr m c) = some (decide (ruleAt m c = noR)) := by
  unfold F_impl_runner_halts
  rw [impl_ruleR M h hN, bnd_some_eq, impl_isRule, bnd_some_eq, Bool.not_not]
theorem impl_configR (m : GMachine) (c : GConfig) (h1 : c.Left.length ≤ 1048576) (h2 : c.Right.length ≤ 1048576) : F_impl_runner_config (rnr m c) = some c := by
  unfold F_impl_runner_config rnr
  simp only
  rw [impl_reversed _ (by simpa using h1), impl_reversed _ (by simpa using h2)]
  simp only [bnd_some_eq, List.reverse_reverse]
def small (c : GConfig) : Bool := decide (c.Left.length ≤ 200) && decide (c.Right.length ≤ 200)
theorem impl_stepR {m : GMachine} {s q N : Nat} (M : MaI m s q) {c : GConfig} (h : CfI s q N c) (hN : N ≤ 1000) (hL : Tm c.Left) (hR : Tm c.Right) :
    F_impl_runner_step (rnr m c) = some (small (stepC (ruleAt m c) c), ((stepC (ruleAt m c) c).State, (stepC (ruleAt m c) c).Left.reverse, (stepC (ruleAt m c) c).Right.reverse)) := by
  have hl := h.ll
  have hr := h.rl
  have ht : c.Right.tail.length ≤ c.Right.length := by simp
  have pushE : ∀ (xs : List Int) (x : Int), xs.length ≤ 2000 → (cond (decide (x = 0)) (cond (decide ((xs.reverse.length : Int) = 0)) (some xs.reverse) (app xs.reverse [x])) (app xs.reverse [x])) = some (pushR xs x).reverse := by
    intro xs x hx
    unfold pushR
    rw [app_ok (by simp; omega)]
    by_cases h0 : x = 0
    · rw [decide_eq_true h0, cond_true]
      cases xs with
      | nil => rw [if_pos ⟨h0, rfl⟩]; rfl
      | cons y l =>
        rw [decide_eq_false (by simp; omega), cond_false, if_neg (fun e => by simp at e), List.reverse_cons]
        simp
    · rw [decide_eq_false h0, cond_false, if_neg (fun e => h0 e.1), List.reverse_cons]
  unfold F_impl_runner_step
  rw [impl_ruleR M h hN, bnd_some_eq]
  generalize ruleAt m c = r
  show bnd (slc c.Right.reverse 0 (if (w64 ((c.Right.reverse.length : Int) - 1)) > 0 then (w64 ((c.Right.reverse.length : Int) - 1)) else 0)) _ = _
  rw [impl_popR _ (by omega), bnd_some_eq]
  unfold rnr stepC
  simp only
  by_cases hm : 0 < r.Move
  · rw [decide_eq_true hm, cond_true, if_pos hm, hL.cons]
    have hp := pushE c.Left r.Write (by omega)
    unfold pushR at hp
    generalize (if r.Write = 0 ∧ c.Left = [] then ([] : List Int) else r.Write :: c.Left) = L' at hp
    have e : (cond (decide (r.Write = 0)) (cond (decide ((c.Left.reverse.length : Int) = 0)) (some (.brk (c.Left.reverse, c.Right.tail.reverse))) (bnd (app c.Left.reverse ([r.Write] : List Int)) fun z19 => some (.brk (z19, c.Right.tail.reverse)))) (bnd (app c.Left.reverse ([r.Write] : List Int)) fun z23 => some (.brk (z23, c.Right.tail.reverse))) : Option (Out ((List Int) × (List Int)) ((Bool) × (Int × (List Int) × (List Int))))) = some (.brk (L'.reverse, c.Right.tail.reverse)) := by
      have hp' := congrArg (fun o => bnd o fun z => (some (Out.brk (z, c.Right.tail.reverse)) : Option (Out ((List Int) × (List Int)) ((Bool) × (Int × (List Int) × (List Int)))))) hp
      rw [bnd_some_eq] at hp'
      rw [← hp']
      cases decide (r.Write = 0)
      · rfl
      · cases decide ((c.Left.reverse.length : Int) = 0) <;> rfl
    rw [e, bnd_some_eq]
    simp only [Out.elim, List.length_reverse, small]
    by_cases g1 : L'.length ≤ 200
    · rw [decide_eq_true (by omega), cond_true, decide_eq_true g1, Bool.true_and]
      congr 2
      rw [decide_eq_decide]
      omega
    · rw [decide_eq_false (by omega), cond_false, decide_eq_false g1, Bool.false_and]
  · rw [decide_eq_false hm, cond_false, if_neg hm]
    have h1 := pushE c.Right.tail r.Write (by omega)
    have k1 := hR.tail.cons r.Write
    have t1 : Tm (trimL (r.Write :: c.Right.tail)) := Tm.trim _
    have k2 := t1.cons (c.Left.getD 0 0)
    have l1 : (trimL (r.Write :: c.Right.tail)).length ≤ c.Right.tail.length + 1 := trimL_len _
    unfold pushR at h1
    rw [← k1] at h1
    have h2 := pushE (trimL (r.Write :: c.Right.tail)) (c.Left.getD 0 0) (by omega)
    unfold pushR at h2
    rw [← k2] at h2
    generalize trimL (c.Left.getD 0 0 :: trimL (r.Write :: c.Right.tail)) = R2 at h2
    generalize trimL (r.Write :: c.Right.tail) = R1 at h1 h2
    rw [impl_nearest _ (by omega)]
    generalize c.Left.getD 0 0 = y at h2
    simp only [bnd_some_eq]
    have e : (cond (decide (r.Write = 0)) (cond (decide ((c.Right.tail.reverse.length : Int) = 0)) (cond (decide (y = 0)) (some (.brk c.Right.tail.reverse)) (bnd (app c.Right.tail.reverse ([y] : List Int)) fun z41 => some (.brk z41))) (bnd (app c.Right.tail.reverse ([r.Write] : List Int)) fun z45 => (cond (decide (y = 0)) (cond (decide ((z45.length : Int) = 0)) (some (.brk z45)) (bnd (app z45 ([y] : List Int)) fun z55 => some (.brk z55))) (bnd (app z45 ([y] : List Int)) fun z59 => some (.brk z59))))) (bnd (app c.Right.tail.reverse ([r.Write] : List Int)) fun z63 => (cond (decide (y = 0)) (cond (decide ((z63.length : Int) = 0)) (some (.brk z63)) (bnd (app z63 ([y] : List Int)) fun z73 => some (.brk z73))) (bnd (app z63 ([y] : List Int)) fun z77 => some (.brk z77)))) : Option (Out ((List Int)) ((Bool) × (Int × (List Int) × (List Int))))) = some (.brk R2.reverse) := by
      have two : ∀ z : List Int, z = R1.reverse → (cond (decide (y = 0)) (cond (decide ((z.length : Int) = 0)) (some (.brk z)) (bnd (app z ([y] : List Int)) fun z55 => some (.brk z55))) (bnd (app z ([y] : List Int)) fun z59 => some (.brk z59)) : Option (Out ((List Int)) ((Bool) × (Int × (List Int) × (List Int))))) = some (.brk R2.reverse) := by
        intro z hz
        subst hz
        have hp' := congrArg (fun o => bnd o fun z => (some (Out.brk z) : Option (Out (List Int) ((Bool) × (Int × (List Int) × (List Int)))))) h2
        rw [bnd_some_eq] at hp'
        rw [← hp']
        cases decide (y = 0)
        · rfl
        · cases decide ((R1.reverse.length : Int) = 0) <;> rfl
      by_cases w0 : r.Write = 0
      · rw [decide_eq_true w0] at h1 ⊢
        simp only [cond_true] at h1 ⊢
        by_cases w1 : (c.Right.tail.reverse.length : Int) = 0
        · rw [decide_eq_true w1] at h1 ⊢
          simp only [cond_true] at h1 ⊢
          have := two c.Right.tail.reverse (Option.some.inj h1)
          rw [decide_eq_true w1] at this
          exact this
        · rw [decide_eq_false w1] at h1 ⊢
          simp only [cond_false] at h1 ⊢
          rw [h1, bnd_some_eq]
          exact two _ rfl
      · rw [decide_eq_false w0] at h1 ⊢
        simp only [cond_false] at h1 ⊢
        rw [h1, bnd_some_eq]
        exact two _ rfl
    rw [e, bnd_some_eq]
    simp only [Out.elim]
    rw [impl_popR _ (by omega), bnd_some_eq, bnd_some_eq]
    simp only [Out.elim, List.length_reverse, small]
    by_cases g1 : c.Left.tail.length ≤ 200
    · rw [decide_eq_true (by omega), cond_true, decide_eq_true g1, Bool.true_and]
      congr 2
      rw [decide_eq_decide]
      omega
    · rw [decide_eq_false (by omega), cond_false, decide_eq_false g1, Bool.false_and]
/-! ### Runs -/
structure CfT (s q : Nat) (c : GConfig) : Prop where
  cf : CfI s q 200 c
  lt : Tm c.Left
  rt : Tm c.Right
theorem CfT.of {m : GMachine} {s q : Nat} (M : MaI m s q) {c : GConfig} (h : confB m c = true) : CfT s q c := by
  have h' := h
  unfold confB at h'
  simp only [Bool.and_eq_true] at h'
  exact ⟨confB_cfi M h, Tm.of_side h'.2.1, Tm.of_side h'.2.2⟩
theorem Tm.step (r : GRule) {c : GConfig} (hL : Tm c.Left) (hR : Tm c.Right) : Tm (stepC r c).Left ∧ Tm (stepC r c).Right := by
  unfold stepC
  split
  · exact ⟨Tm.trim _, hR.tail⟩
  · exact ⟨hL.tail, Tm.trim _⟩
theorem CfT.step {m : GMachine} {s q : Nat} (M : MaI m s q) {c : GConfig} (h : CfT s q c) (hn : ruleAt m c ≠ noR) (hs : small (stepC (ruleAt m c) c) = true) : CfT s q (stepC (ruleAt m c) c) := by
  obtain ⟨w1, _, w3⟩ := rule_in M (ruleAt_idx M h.cf).2 hn
  have h1 := h.cf.step w1 w3
  have h2 := Tm.step (ruleAt m c) h.lt h.rt
  unfold small at hs
  simp only [Bool.and_eq_true, decide_eq_true_eq] at hs
  exact ⟨⟨h1.st, h1.lf, h1.rt, hs.1, hs.2⟩, h2.1, h2.2⟩
theorem CfT.conf {m : GMachine} {s q : Nat} (M : MaI m s q) {c : GConfig} (h : CfT s q c) : confB m c = true := by
  obtain ⟨p, hp, hq⟩ := h.cf.st
  have hs := M.hs
  have hq' := M.hq
  have side : ∀ xs : List Int, (∀ j, 0 ≤ xs.getD j 0 ∧ xs.getD j 0 < s) → xs.length ≤ 200 → Tm xs → sideB m.Symbols xs = true := by
    intro xs h1 h2 h3
    unfold sideB
    rw [decide_eq_true h2, Bool.true_and, h3.last, Bool.and_true]
    refine List.all_eq_true.2 fun x hx => inB_iff.2 ?_
    obtain ⟨j, hj, rfl⟩ := List.mem_iff_getElem.1 hx
    have := h1 j
    rw [List.getD_eq_getElem?_getD, List.getElem?_eq_getElem hj, Option.getD_some] at this
    omega
  unfold confB
  rw [side _ h.cf.lf h.cf.ll h.lt, side _ h.cf.rt h.cf.rl h.rt, Bool.and_true, Bool.and_true]
  exact inB_iff.2 (by omega)
/-- A run of so many steps at most. -/
def goC (m : GMachine) : Nat → GConfig → Option (Nat × GConfig)
  | 0, c => some (0, c)
  | n + 1, c => if ruleAt m c = noR then some (0, c) else if small (stepC (ruleAt m c) c) = true then (goC m n (stepC (ruleAt m c) c)).map fun r => (r.1 + 1, r.2) else none
def traceM (m : GMachine) : Nat → GConfig → Option (List GConfig)
  | 0, c => some [c]
  | n + 1, c => if ruleAt m c = noR then some [c] else if small (stepC (ruleAt m c) c) = true then (traceM m n (stepC (ruleAt m c) c)).map fun r => c :: r else none
theorem goC_succ (m : GMachine) (n : Nat) (c : GConfig) : goC m (n + 1) c = if ruleAt m c = noR then some (0, c) else if small (stepC (ruleAt m c) c) = true then (goC m n (stepC (ruleAt m c) c)).map fun r => (r.1 + 1, r.2) else none := rfl
theorem goC_conf {m : GMachine} {s q : Nat} (M : MaI m s q) : ∀ (n : Nat) (c : GConfig), CfT s q c → ∀ r, goC m n c = some r → CfT s q r.2 ∧ r.1 ≤ n
  | 0, c, h, r, e => by
    obtain rfl := Option.some.inj e
    exact ⟨h, Nat.le_refl _⟩
  | n + 1, c, h, r, e => by
    unfold goC at e
    split at e
    · obtain rfl := Option.some.inj e
      exact ⟨h, Nat.zero_le _⟩
    · rename_i hn
      split at e
      · rename_i hs
        obtain ⟨r', e', rfl⟩ := Option.map_eq_some_iff.1 e
        have := goC_conf M n _ (h.step M hn hs) r' e'
        exact ⟨this.1, by simp only; omega⟩
      · cases e
theorem goC_halt {m : GMachine} {c : GConfig} (h : ruleAt m c = noR) : ∀ n, goC m n c = some (0, c)
  | 0 => rfl
  | n + 1 => by unfold goC; rw [if_pos h]
theorem goC_add (m : GMachine) : ∀ (a b : Nat) (c : GConfig), goC m (a + b) c = (goC m a c).bind fun r => (goC m b r.2).map fun t => (r.1 + t.1, t.2)
  | 0, b, c => by
    rw [Nat.zero_add]
    show goC m b c = (goC m b c).map fun t => (0 + t.1, t.2)
    cases goC m b c with
    | none => rfl
    | some t => simp
  | a + 1, b, c => by
    rw [show a + 1 + b = (a + b) + 1 by omega]
    by_cases h : ruleAt m c = noR
    · rw [goC_halt h, goC_halt h]
      show _ = (goC m b c).map _
      rw [goC_halt h]
      rfl
    · rw [goC_succ, goC_succ, if_neg h, if_neg h]
      by_cases hs : small (stepC (ruleAt m c) c) = true
      · rw [if_pos hs, if_pos hs, goC_add m a b]
        cases goC m a (stepC (ruleAt m c) c) with
        | none => rfl
        | some r =>
          show ((goC m b r.2).map _).map _ = (goC m b r.2).map _
          cases goC m b r.2 with
          | none => rfl
          | some t =>
            show some _ = some _
            congr 1
            simp only [Prod.mk.injEq, and_true]
            omega
      · rw [if_neg hs, if_neg hs]
        rfl
theorem traceM_go (m : GMachine) : ∀ (n : Nat) (c : GConfig), match goC m n c with
    | none => traceM m n c = none
    | some r => ∃ l, traceM m n c = some l ∧ l.length = r.1 + 1 ∧ l.head? = some c ∧ l[r.1]? = some r.2
  | 0, c => ⟨[c], rfl, rfl, rfl, rfl⟩
  | n + 1, c => by
    unfold goC traceM
    by_cases h : ruleAt m c = noR
    · rw [if_pos h, if_pos h]
      exact ⟨[c], rfl, rfl, rfl, rfl⟩
    · rw [if_neg h, if_neg h]
      by_cases hs : small (stepC (ruleAt m c) c) = true
      · rw [if_pos hs, if_pos hs]
        have := traceM_go m n (stepC (ruleAt m c) c)
        cases hg : goC m n (stepC (ruleAt m c) c) with
        | none =>
          rw [hg] at this
          simp only at this
          rw [this]
          exact rfl
        | some r =>
          rw [hg] at this
          obtain ⟨l, h1, h2, h3, h4⟩ := this
          rw [h1]
          exact ⟨c :: l, rfl, by simp [h2], rfl, by simpa using h4⟩
      · rw [if_neg hs, if_neg hs]
theorem run_goC {m : GMachine} {s q : Nat} (M : MaI m s q) (c0 : GConfig) : ∀ (n j : Nat) (c : GConfig) (d : Int), CfT s q c → n + j ≤ 1000000 →
    ∃ x, run (F_impl_runner_run_L1 (rnr m c0) ((n + j : Nat) : Int)) (c.State, c.Left.reverse, c.Right.reverse, (j : Int), d) = some x ∧
      match goC m n c with
      | none => ∃ t, x = .ret (some ((0, false, 5), t))
      | some r => x = .brk (r.2.State, r.2.Left.reverse, r.2.Right.reverse, ((j + r.1 : Nat) : Int), ((j + r.1 : Nat) : Int)) := by
  intro n
  induction n with
  | zero =>
    intro j c d _ hj
    refine ⟨_, run_done ?_, rfl⟩
    simp only [F_impl_runner_run_L1]
    rw [decide_eq_false (by omega), cond_false]
    rfl
  | succ n ih =>
    intro j c d h hj
    have hh : F_impl_runner_halts ⟨(rnr m c0).m_Symbols, (rnr m c0).m_States, (rnr m c0).m_Rules, c.State, c.Left.reverse, c.Right.reverse⟩ = some (decide (ruleAt m c = noR)) := impl_haltsR M h.cf (by omega)
    have hs : F_impl_runner_step ⟨(rnr m c0).m_Symbols, (rnr m c0).m_States, (rnr m c0).m_Rules, c.State, c.Left.reverse, c.Right.reverse⟩ = _ := impl_stepR M h.cf (by omega) h.lt h.rt
    unfold goC
    by_cases hn : ruleAt m c = noR
    · rw [if_pos hn]
      refine ⟨_, run_done ?_, rfl⟩
      simp only [F_impl_runner_run_L1]
      rw [decide_eq_true (by omega), cond_true, hh, bnd_some_eq, decide_eq_true hn]
      rfl
    · rw [if_neg hn]
      by_cases hk : small (stepC (ruleAt m c) c) = true
      · rw [if_pos hk]
        have hb : F_impl_runner_run_L1 (rnr m c0) ((n + 1 + j : Nat) : Int) (c.State, c.Left.reverse, c.Right.reverse, (j : Int), d) = some (.inl ((stepC (ruleAt m c) c).State, (stepC (ruleAt m c) c).Left.reverse, (stepC (ruleAt m c) c).Right.reverse, ((j + 1 : Nat) : Int), (j : Int))) := by
          simp only [F_impl_runner_run_L1]
          rw [decide_eq_true (by omega), cond_true, hh, bnd_some_eq, decide_eq_false hn, Bool.not_false, cond_true, hs, bnd_some_eq, hk, w64_nat1 (by omega)]
          rfl
        rw [run_next hb]
        have := ih (j + 1) (stepC (ruleAt m c) c) (j : Int) (h.step M hn hk) (by omega)
        rw [show n + (j + 1) = n + 1 + j by omega] at this
        obtain ⟨x, hx, hm⟩ := this
        refine ⟨x, hx, ?_⟩
        cases hg : goC m n (stepC (ruleAt m c) c) with
        | none => rw [hg] at hm; exact hm
        | some r =>
          rw [hg] at hm
          simp only [Option.map_some] at hm ⊢
          rw [hm, show j + 1 + r.1 = j + (r.1 + 1) by omega]
      · rw [if_neg hk]
        have hk' : small (stepC (ruleAt m c) c) = false := by simpa using hk
        refine ⟨.ret (some ((0, false, 5), ((stepC (ruleAt m c) c).State, (stepC (ruleAt m c) c).Left.reverse, (stepC (ruleAt m c) c).Right.reverse))), run_done ?_, _, rfl⟩
        simp only [F_impl_runner_run_L1]
        rw [decide_eq_true (by omega), cond_true, hh, bnd_some_eq, decide_eq_false hn, Bool.not_false, cond_true, hs, bnd_some_eq, hk']
        rfl
theorem machB_sml {m : GMachine} (h : machB m = true) : Sml m := by
  obtain ⟨s, q, M⟩ := machB_mai h
  have h1 := M.hl
  have h2 := M.b5
  exact ⟨by omega, fun _ _ => trivial⟩
theorem confB_sml {m : GMachine} {c : GConfig} (h : confB m c = true) : Sml c := by
  have := confB_len h
  exact ⟨⟨by omega, fun _ _ => trivial⟩, ⟨by omega, fun _ _ => trivial⟩⟩
theorem impl_runnerOf {m : GMachine} {c : GConfig} (h : confB m c = true) : F_impl_runnerOf m c = some (m.Symbols, m.States, m.Rules, c.State, c.Left.reverse, c.Right.reverse) := by
  have := confB_len h
  unfold F_impl_runnerOf
  rw [impl_reversed _ (by omega), impl_reversed _ (by omega)]
  rfl
theorem impl_run {m : GMachine} (hm : machB m = true) {c : GConfig} (hc : confB m c = true) {n : Nat} (h1 : 1 ≤ n) (h2 : n ≤ 20000) :
    F_impl_RunMachine m c (n : Int) = some (match goC m n c with
      | none => (⟨0, [], []⟩, 0, false, 5)
      | some r => (r.2, (r.1 : Int), decide (ruleAt m r.2 = noR), 0)) := by
  obtain ⟨s, q, M⟩ := machB_mai hm
  have hT := CfT.of M hc
  have hb : F_impl_budgetOk (n : Int) = some true := by
    unfold F_impl_budgetOk
    rw [impl_in, bnd_some_eq]
    congr 1
    exact inB_iff.2 (by omega)
  unfold F_impl_RunMachine
  rw [impl_confV m c (machB_sml hm) (confB_sml hc), bnd_some_eq, hm, hc, hb, impl_runnerOf hc]
  simp only [bnd_some_eq, Bool.and_self, Bool.not_true, cond_false]
  obtain ⟨x, hx, hg⟩ := run_goC M c n 0 c 0 hT (by omega)
  rw [Nat.add_zero, show ((0 : Nat) : Int) = 0 from rfl] at hx
  unfold F_impl_runner_run
  show bnd (bnd (run (F_impl_runner_run_L1 (rnr m c) (n : Int)) (c.State, c.Left.reverse, c.Right.reverse, 0, 0)) _) _ = _
  rw [hx, bnd_some_eq]
  cases hgo : goC m n c with
  | none =>
    rw [hgo] at hg
    obtain ⟨t, rfl⟩ := hg
    rfl
  | some r =>
    rw [hgo] at hg
    simp only at hg
    subst hg
    have hr := (goC_conf M n c hT r hgo).1
    have hh : F_impl_runner_halts ⟨m.Symbols, m.States, m.Rules, r.2.State, r.2.Left.reverse, r.2.Right.reverse⟩ = some (decide (ruleAt m r.2 = noR)) := impl_haltsR M hr.cf (by omega)
    have hcf : F_impl_runner_config ⟨m.Symbols, m.States, m.Rules, r.2.State, r.2.Left.reverse, r.2.Right.reverse⟩ = some r.2 := impl_configR m r.2 (by have := hr.cf.ll; omega) (by have := hr.cf.rl; omega)
    simp only [Out.elim]
    rw [hh, bnd_some_eq, bnd_some_eq]
    simp only
    rw [decide_eq_false (by decide), cond_false, hcf, bnd_some_eq, Nat.zero_add]
end Go.Fn
