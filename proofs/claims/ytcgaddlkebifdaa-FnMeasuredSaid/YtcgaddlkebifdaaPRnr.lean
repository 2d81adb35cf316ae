/-
  Machines run by the runner: its sides are turned round; the plain law of FnRuns. No program in sight. No condition.
-/
import Derived.Test.YtcgaddlkebifdaaPMDraw
import Derived.Test.YtcgaddlkebifdaaPR8
namespace Go.Fn
open Go Go.Tc
/-! ### The runner -/
def rnr (m : GMachine) (c : GConfig) : Grunner := ⟨m.Symbols, m.States, m.Rules, c.State, c.Left.reverse, c.Right.reverse⟩
/-- A side without blanks at its far end. -/
def Tm (xs : List Int) : Prop := trimL xs = xs
theorem trimL_idem : ∀ (n : Nat) (xs : List Int), xs.length = n → trimL (trimL xs) = trimL xs := by
  intro n
  induction n with
  | zero =>
    intro xs hn
    obtain rfl := List.eq_nil_of_length_eq_zero hn
    rfl
  | succ n ih =>
    intro xs hn
    rcases snoc_cases xs with rfl | ⟨ys, y, rfl⟩
    · simp at hn
    · rw [trimL_snoc]
      by_cases h : y = 0
      · rw [if_pos h]
        exact ih ys (by simpa using hn)
      · rw [if_neg h, trimL_snoc, if_neg h]
theorem Tm.trim (xs : List Int) : Tm (trimL xs) := trimL_idem _ xs rfl
theorem Tm.nil : Tm [] := rfl
theorem Tm.of_side {s : Int} {xs : List Int} (h : sideB s xs = true) : Tm xs := by
  rcases snoc_cases xs with rfl | ⟨ys, y, rfl⟩
  · rfl
  · unfold sideB at h
    simp only [Bool.and_eq_true, Bool.or_eq_true, decide_eq_true_eq] at h
    have h0 : y ≠ 0 := by
      have := h.2
      simpa using this
    unfold Tm
    rw [trimL_snoc, if_neg h0]
theorem Tm.last {xs : List Int} (h : Tm xs) : (decide (xs.length = 0) || decide (xs.getLastD 0 ≠ 0)) = true := by
  rcases snoc_cases xs with rfl | ⟨ys, y, rfl⟩
  · rfl
  · unfold Tm at h
    rw [trimL_snoc] at h
    by_cases h0 : y = 0
    · rw [if_pos h0] at h
      have := trimL_len ys
      rw [h] at this
      simp at this
      omega
    · simp [h0]
theorem Tm.cons {xs : List Int} (h : Tm xs) (x : Int) : trimL (x :: xs) = if x = 0 ∧ xs = [] then [] else x :: xs := by
  rcases snoc_cases xs with rfl | ⟨ys, y, rfl⟩
  · have := trimL_snoc [] x
    rw [List.nil_append] at this
    rw [this]
    by_cases h0 : x = 0
    · rw [if_pos h0, if_pos ⟨h0, rfl⟩]; rfl
    · rw [if_neg h0, if_neg (fun e => h0 e.1)]
  · have h1 := h.last
    have h0 : y ≠ 0 := by simpa using h1
    rw [← List.cons_append, trimL_snoc, if_neg h0, if_neg (fun e => by simp at e)]
theorem Tm.tail {xs : List Int} (h : Tm xs) : Tm xs.tail := by
  cases xs with
  | nil => rfl
  | cons x l =>
    rcases snoc_cases l with rfl | ⟨ys, y, rfl⟩
    · rfl
    · unfold Tm at h
      rw [← List.cons_append, trimL_snoc] at h
      have h0 : y ≠ 0 := by
        intro e
        rw [if_pos e] at h
        have := trimL_len (x :: ys)
        rw [h] at this
        simp at this
        omega
      show trimL (ys ++ [y]) = ys ++ [y]
      rw [trimL_snoc, if_neg h0]
theorem impl_nearest (xs : List Int) (h : xs.length ≤ 1048576) : F_impl_nearest xs.reverse = some (xs.getD 0 0) := by
  unfold F_impl_nearest
  cases xs with
  | nil => rfl
  | cons x l =>
    rw [List.reverse_cons, idx_snoc _ _ (by simp at h ⊢; omega), decide_eq_false (by simp; omega), cond_false]
    rfl
theorem impl_popR (xs : List Int) (h : xs.length ≤ 1048576) : slc xs.reverse 0 (if (w64 ((xs.reverse.length : Int) - 1)) > 0 then (w64 ((xs.reverse.length : Int) - 1)) else 0) = some xs.tail.reverse := by
  cases xs with
  | nil => rfl
  | cons x l =>
    have hl : l.length < 1048576 := by simp at h; omega
    have e : w64 (((x :: l).reverse.length : Int) - 1) = (l.length : Int) := by
      rw [List.length_reverse, List.length_cons, w64_in (by omega) (by omega)]
      omega
    rw [e]
    have e2 : (if (l.length : Int) > 0 then (l.length : Int) else 0) = ((l.length : Nat) : Int) := by
      split <;> omega
    rw [e2, slc0 (by simp), List.reverse_cons]
    congr 1
    rw [List.take_left' (by simp)]
    rfl
def pushR (xs : List Int) (x : Int) : List Int := if x = 0 ∧ xs = [] then [] else x :: xs
/-- The rule under the head. -/
theorem impl_ruleR {m : GMachine} {s q N : Nat} (M : MaI m s q) {c : GConfig} (h : CfI s q N c) (hN : N ≤ 1000) : F_impl_runner_rule (rnr m c) = some (ruleAt m c) := by
  have hr := h.rl
  unfold F_impl_runner_rule F_impl_runner_at F_impl_runner_symbol rnr
  simp only
  rw [impl_nearest _ (by omega)]
  simp only [bnd_some_eq]
  rw [(ruleAt_idx M h).1, bnd_some_eq]
theorem impl_haltsR {m : GMachine} {s q N : Nat} (M : MaI m s q) {c : GConfig} (h : CfI s q N c) (hN : N ≤ 1000) : F_impl_runner_halts (rnr m c) = some (decide (ruleAt m c = noR)) := by
  unfold F_impl_runner_halts
  rw [impl_ruleR M h hN, bnd_some_eq, impl_isRule, bnd_some_eq, Bool.not_not]
theorem impl_configR (m : GMachine) (c : GConfig) (h1 : c.Left.length ≤ 1048576) (h2 : c.Right.length ≤ 1048576) : F_impl_runner_config (rnr m c) = some c := by
  unfold F_impl_runner_config rnr
  simp only
  rw [impl_reversed _ (by simpa using h1), impl_reversed _ (by simpa using h2)]
  simp only [bnd_some_eq, List.reverse_reverse]
def small (c : GConfig) : Bool := decide (c.Left.length ≤ 200) && decide (c.Right.length ≤ 200)
theorem impl_stepR {m : GMachine} {s q N : Nat} (M : MaI m s q) {c : GConfig} (h : CfI s q N c) (hN : N ≤ 1000) (hL : Tm c.Left) (hR : Tm c.Right) :
    F_impl_runner_step (rnr m c) = some (small (stepC (ruleAt m c) c), ((stepC (ruleAt m c) c).State, (stepC (ruleAt m c) c).Left.reverse, (stepC (ruleAt m c) c).Right.reverse)) := by
  have hl := h.ll
  have hr := h.rl
  have ht : c.Right.tail.length ≤ c.Right.length := by simp
  have pushE : ∀ (xs : List Int) (x : Int), xs.length ≤ 2000 → (cond (decide (x = 0)) (cond (decide ((xs.reverse.length : Int) = 0)) (some xs.reverse) (app xs.reverse [x])) (app xs.reverse [x])) = some (pushR xs x).reverse := by
    intro xs x hx
    unfold pushR
    rw [app_ok (by simp; omega)]
    by_cases h0 : x = 0
    · rw [decide_eq_true h0, cond_true]
      cases xs with
      | nil => rw [if_pos ⟨h0, rfl⟩]; rfl
      | cons y l =>
        rw [decide_eq_false (by simp; omega), cond_false, if_neg (fun e => by simp at e), List.reverse_cons]
        simp
    · rw [decide_eq_false h0, cond_false, if_neg (fun e => h0 e.1), List.reverse_cons]
  unfold F_impl_runner_step
  rw [impl_ruleR M h hN, bnd_some_eq]
  generalize ruleAt m c = r
  show bnd (slc c.Right.reverse 0 (if (w64 ((c.Right.reverse.length : Int) - 1)) > 0 then (w64 ((c.Right.reverse.length : Int) - 1)) else 0)) _ = _
  rw [impl_popR _ (by omega), bnd_some_eq]
  unfold rnr stepC
  simp only
  by_cases hm : 0 < r.Move
  · rw [decide_eq_true hm, cond_true, if_pos hm, hL.cons]
    have hp := pushE c.Left r.Write (by omega)
    unfold pushR at hp
    generalize (if r.Write = 0 ∧ c.Left = [] then ([] : List Int) else r.Write :: c.Left) = L' at hp
    have e : (cond (decide (r.Write = 0)) (cond (decide ((c.Left.reverse.length : Int) = 0)) (some (.brk (c.Left.reverse, c.Right.tail.reverse))) (bnd (app c.Left.reverse ([r.Write] : List Int)) fun z19 => some (.brk (z19, c.Right.tail.reverse)))) (bnd (app c.Left.reverse ([r.Write] : List Int)) fun z23 => some (.brk (z23, c.Right.tail.reverse))) : Option (Out ((List Int) × (List Int)) ((Bool) × (Int × (List Int) × (List Int))))) = some (.brk (L'.reverse, c.Right.tail.reverse)) := by
      have hp' := congrArg (fun o => bnd o fun z => (some (Out.brk (z, c.Right.tail.reverse)) : Option (Out ((List Int) × (List Int)) ((Bool) × (Int × (List Int) × (List Int)))))) hp
      rw [bnd_some_eq] at hp'
      rw [← hp']
      cases decide (r.Write = 0)
      · rfl
      · cases decide ((c.Left.reverse.length : Int) = 0) <;> rfl
    rw [e, bnd_some_eq]
    simp only [Out.elim, List.length_reverse, small]
    by_cases g1 : L'.length ≤ 200
    · rw [decide_eq_true (by omega), cond_true, decide_eq_true g1, Bool.true_and]
      congr 2
      rw [decide_eq_decide]
      omega
    · rw [decide_eq_false (by omega), cond_false, decide_eq_false g1, Bool.false_and]
  · rw [decide_eq_false hm, cond_false, if_neg hm]
    have h1 := pushE c.Right.tail r.Write (by omega)
    have k1 := hR.tail.cons r.Write
    have t1 : Tm (trimL (r.Write :: c.Right.tail)) := Tm.trim _
    have k2 := t1.cons (c.Left.getD 0 0)
    have l1 : (trimL (r.Write :: c.Right.tail)).length ≤ c.Right.tail.length + 1 := trimL_len _
    unfold pushR at h1
    rw [← k1] at h1
    have h2 := pushE (trimL (r.Write :: c.Right.tail)) (c.Left.getD 0 0) (by omega)
    unfold pushR at h2
    rw [← k2] at h2
    generalize trimL (c.Left.getD 0 0 :: trimL (r.Write :: c.Right.tail)) = R2 at h2
    generalize trimL (r.Write :: c.Right.tail) = R1 at h1 h2
    rw [impl_nearest _ (by omega)]
    generalize c.Left.getD 0 0 = y at h2
    simp only [bnd_some_eq]
    have e : (cond (decide (r.Write = 0)) (cond (decide ((c.Right.tail.reverse.length : Int) = 0)) (cond (decide (y = 0)) (some (.brk c.Right.tail.reverse)) (bnd (app c.Right.tail.reverse ([y] : List Int)) fun z41 => some (.brk z41))) (bnd (app c.Right.tail.reverse ([r.Write] : List Int)) fun z45 => (cond (decide (y = 0)) (cond (decide ((z45.length : Int) = 0)) (some (.brk z45)) (bnd (app z45 ([y] : List Int)) fun z55 => some (.brk z55))) (bnd (app z45 ([y] : List Int)) fun z59 => some (.brk z59))))) (bnd (app c.Right.tail.reverse ([r.Write] : List Int)) fun z63 => (cond (decide (y = 0)) (cond (decide ((z63.length : Int) = 0)) (some (.brk z63)) (bnd (app z63 ([y] : List Int)) fun z73 => some (.brk z73))) (bnd (app z63 ([y] : List Int)) fun z77 => some (.brk z77)))) : Option (Out ((List Int)) ((Bool) × (Int × (List Int) × (List Int))))) = some (.brk R2.reverse) := by
      have two : ∀ z : List Int, z = R1.reverse → (cond (decide (y = 0)) (cond (decide ((z.length : Int) = 0)) (some (.brk z)) (bnd (app z ([y] : List Int)) fun z55 => some (.brk z55))) (bnd (app z ([y] : List Int)) fun z59 => some (.brk z59)) : Option (Out ((List Int)) ((Bool) × (Int × (List Int) × (List Int))))) = some (.brk R2.reverse) := by
        intro z hz
        subst hz
        have hp' := congrArg (fun o => bnd o fun z => (some (Out.brk z) : Option (Out (List Int) ((Bool) × (Int × (List Int) × (List Int)))))) h2
        rw [bnd_some_eq] at hp'
        rw [← hp']
        cases decide (y = 0)
        · rfl
        · cases decide ((R1.reverse.length : Int) = 0) <;> rfl
      by_cases w0 : r.Write = 0
      · rw [decide_eq_true w0] at h1 ⊢
        simp only [cond_true] at h1 ⊢
        by_cases w1 : (c.Right.tail.reverse.length : Int) = 0
        · rw [decide_eq_true w1] at h1 ⊢
          simp only [cond_true] at h1 ⊢
          have := two c.Right.tail.reverse (Option.some.inj h1)
          rw [decide_eq_true w1] at this
          exact this
        · rw [decide_eq_false w1] at h1 ⊢
          simp only [cond_false] at h1 ⊢
          rw [h1, bnd_some_eq]
          exact two _ rfl
      · rw [decide_eq_false w0] at h1 ⊢
        simp only [cond_false] at h1 ⊢
        rw [h1, bnd_some_eq]
        exact two _ rfl
    rw [e, bnd_some_eq]
    simp only [Out.elim]
    rw [impl_popR _ (by omega), bnd_some_eq, bnd_some_eq]
    simp only [Out.elim, List.length_reverse, small]
    by_cases g1 : c.Left.tail.length ≤ 200
    · rw [decide_eq_true (by omega), cond_true, decide_eq_true g1, Bool.true_and]
      congr 2
      rw [decide_eq_decide]
      omega
    · rw [decide_eq_false (by omega), cond_false, decide_eq_false g1, Bool.false_and]
/-! ### Runs -/
structure CfT (s q : Nat) (c : GConfig) : Prop where
  cf : CfI s q 200 c
  lt : Tm c.Left
  rt : Tm c.Right
theorem CfT.of {m : GMachine} {s q : Nat} (M : MaI m s q) {c : GConfig} (h : confB m c = true) : CfT s q c := by
  have h' := h
  unfold confB at h'
  simp only [Bool.and_eq_true] at h'
  exact ⟨confB_cfi M h, Tm.of_side h'.2.1, Tm.of_side h'.2.2⟩
theorem Tm.step (r : GRule) {c : GConfig} (hL : Tm c.Left) (hR : Tm c.Right) : Tm (stepC r c).Left ∧ Tm (stepC r c).Right := by
  unfold stepC
  split
  · exact ⟨Tm.trim _, hR.tail⟩
  · exact ⟨hL.tail, Tm.trim _⟩
theorem CfT.step {m : GMachine} {s q : Nat} (M : MaI m s q) {c : GConfig} (h : CfT s q c) (hn : ruleAt m c ≠ noR) (hs : small (stepC (ruleAt m c) c) = true) : CfT s q (stepC (ruleAt m c) c) := by
  obtain ⟨w1, _, w3⟩ := rule_in M (ruleAt_idx M h.cf).2 hn
  have h1 := h.cf.step w1 w3
  have h2 := Tm.step (ruleAt m c) h.lt h.rt
  unfold small at hs
  simp only [Bool.and_eq_true, decide_eq_true_eq] at hs
  exact ⟨⟨h1.st, h1.lf, h1.rt, hs.1, hs.2⟩, h2.1, h2.2⟩
theorem machB_sml {m : GMachine} (h : machB m = true) : Sml m := by
  obtain ⟨s, q, M⟩ := machB_mai h
  have h1 := M.hl
  have h2 := M.b5
  exact ⟨by omega, fun _ _ => trivial⟩
theorem confB_sml {m : GMachine} {c : GConfig} (h : confB m c = true) : Sml c := by
  have := confB_len h
  exact ⟨⟨by omega, fun _ _ => trivial⟩, ⟨by omega, fun _ _ => trivial⟩⟩
theorem impl_runnerOf {m : GMachine} {c : GConfig} (h : confB m c = true) : F_impl_runnerOf m c = some (m.Symbols, m.States, m.Rules, c.State, c.Left.reverse, c.Right.reverse) := by
  have := confB_len h
  unfold F_impl_runnerOf
  rw [impl_reversed _ (by omega), impl_reversed _ (by omega)]
  rfl
end Go.Fn
