/-
  The rules of halting derivations are valid; the plain law of StepsOfDerivation. No program in sight. No condition.
-/
import Derived.Test.YtfklpjdenigohaaPHalt
import Derived.Test.YtfklpjdenigohaaPMoD
namespace Go.Fn
open Go Go.Tc
def let9 (xs : List Int) : Bool := xs.all fun x => inB x 0 9
def goodRw (r : GRewrite) : Bool := let9 r.From && let9 r.To && decide (r.From.length ≠ 0)
theorem inB9 {x : Int} (h0 : 0 ≤ x) (h9 : x ≤ 9) : inB x 0 9 = true := inB_iff.2 ⟨h0, h9⟩
theorem rwOf_good {s q : Nat} {S b k : Int} {r : GRule} (hS : S = s) (hb : b = S + (q : Int)) (h5 : b + 1 ≤ 5) (b1 : 2 ≤ s) (hk : 0 ≤ k ∧ k < (q : Int) * (s : Int)) (hw : 0 ≤ r.Write ∧ r.Write ≤ S - 1) (hn : 0 ≤ r.Next ∧ r.Next ≤ (q : Int) - 1) : (rwOf s S b k r).all goodRw = true := by
  have hm : 0 ≤ Int.tmod k S ∧ Int.tmod k S < S := by
    subst hS
    exact ⟨Int.tmod_nonneg _ hk.1, Int.tmod_lt_of_pos _ (by omega)⟩
  have hd : 0 ≤ Int.tdiv k S ∧ Int.tdiv k S < q := by
    subst hS
    rw [Int.tdiv_eq_ediv_of_nonneg hk.1]
    refine ⟨Int.ediv_nonneg hk.1 (by omega), Int.ediv_lt_of_lt_mul (by omega) hk.2⟩
  have e1 : w64 (Int.tdiv k S) = Int.tdiv k S := w64_in (by omega) (by omega)
  have e2 : w64 (S + Int.tdiv k S) = S + Int.tdiv k S := w64_in (by omega) (by omega)
  have e3 : w64 (S + r.Next) = S + r.Next := w64_in (by omega) (by omega)
  have g1 := inB9 (x := S + Int.tdiv k S) (by omega) (by omega)
  have g2 := inB9 (x := Int.tmod k S) (by omega) (by omega)
  have g3 := inB9 (x := S + r.Next) (by omega) (by omega)
  have g4 := inB9 (x := r.Write) (by omega) (by omega)
  have g5 := inB9 (x := b) (by omega) (by omega)
  have g6 := inB9 (x := (0 : Int)) (by omega) (by omega)
  have g7 : ∀ c ∈ List.range s, inB ((c : Nat) : Int) 0 9 = true := fun c hc => by
    have := List.mem_range.1 hc
    exact inB9 (by omega) (by omega)
  unfold rwOf
  rw [e1, e2, e3]
  have f1 : ((List.range s).flatMap fun (c : Nat) => [(⟨[(c : Int), S + Int.tdiv k S, Int.tmod k S], [S + r.Next, (c : Int), r.Write]⟩ : GRewrite)]).all goodRw = true := by
    rw [List.all_flatMap, List.all_eq_true]
    intro c hc
    simp only [List.all_cons, List.all_nil, goodRw, let9, g1, g2, g3, g4, g7 c hc]
    rfl
  have f2 : ((List.range s).flatMap fun (c : Nat) => [(⟨[(c : Int), S + Int.tdiv k S, b], [S + r.Next, (c : Int), r.Write, b]⟩ : GRewrite)]).all goodRw = true := by
    rw [List.all_flatMap, List.all_eq_true]
    intro c hc
    simp only [List.all_cons, List.all_nil, goodRw, let9, g1, g5, g3, g4, g7 c hc]
    rfl
  cases decide (r.Move = 1) <;> cases decide (Int.tmod k S = 0) <;> simp only [cond_true, cond_false, List.all_append, f1, f2, List.all_cons, List.all_nil, goodRw, let9, g1, g2, g3, g4, g5, g6] <;> rfl
theorem freeRw_good {m : GMachine} {s q : Nat} (hs : m.Symbols = s) (hq : m.States = q) (h5 : m.Symbols + m.States + 1 ≤ 5) (b1 : 2 ≤ s) {i : Nat} (hi : i < q * s) : (freeRw m i).all goodRw = true := by
  have hk : (0 : Int) ≤ (i : Int) ∧ (i : Int) < (q : Int) * (s : Int) := ⟨by omega, by rw [← Int.natCast_mul]; omega⟩
  have hm : 0 ≤ Int.tmod (i : Int) m.Symbols ∧ Int.tmod (i : Int) m.Symbols < m.Symbols := ⟨Int.tmod_nonneg _ hk.1, Int.tmod_lt_of_pos _ (by omega)⟩
  have hd : 0 ≤ Int.tdiv (i : Int) m.Symbols ∧ Int.tdiv (i : Int) m.Symbols < q := by
    rw [Int.tdiv_eq_ediv_of_nonneg hk.1, hs]
    refine ⟨Int.ediv_nonneg hk.1 (by omega), Int.ediv_lt_of_lt_mul (by omega) hk.2⟩
  have e1 : w64 (Int.tdiv (i : Int) m.Symbols) = Int.tdiv (i : Int) m.Symbols := w64_in (by omega) (by omega)
  have e2 : w64 (m.Symbols + Int.tdiv (i : Int) m.Symbols) = m.Symbols + Int.tdiv (i : Int) m.Symbols := w64_in (by omega) (by omega)
  have g1 := inB9 (x := m.Symbols + Int.tdiv (i : Int) m.Symbols) (by omega) (by omega)
  have g2 := inB9 (x := Int.tmod (i : Int) m.Symbols) (by omega) (by omega)
  have g3 := inB9 (x := m.Symbols + m.States) (by omega) (by omega)
  have g4 := inB9 (x := m.Symbols + m.States + 1) (by omega) (by omega)
  unfold freeRw
  rw [e1, e2]
  cases decide (Int.tmod (i : Int) m.Symbols = 0) <;> simp only [cond_true, cond_false, List.all_append, List.all_cons, List.all_nil, goodRw, let9, g1, g2, g3, g4] <;> rfl
theorem haltL_good {m : GMachine} {s q : Nat} (hs : m.Symbols = s) (hq : m.States = q) (h5 : m.Symbols + m.States + 1 ≤ 5) (b1 : 2 ≤ s) (hl : m.Rules.length = q * s) (hr : ∀ r ∈ m.Rules, ruleB m.Symbols m.States r = true) : (haltL m s).all goodRw = true := by
  unfold haltL ownL
  rw [List.all_append, List.all_append, List.all_flatMap, List.all_flatMap, List.all_flatMap, Bool.and_eq_true, Bool.and_eq_true, List.all_eq_true, List.all_eq_true, List.all_eq_true]
  refine ⟨⟨fun i hi => ?_, fun i hi => ?_⟩, fun i hi => ?_⟩
  · have hi' := List.mem_range.1 hi
    unfold ownRw
    by_cases hn : m.Rules.getD i noR = noR
    · rw [decide_eq_true hn]; rfl
    · rw [decide_eq_false hn, cond_false]
      have hm : m.Rules.getD i noR ∈ m.Rules := by
        rw [List.getD_eq_getElem?_getD, List.getElem?_eq_getElem hi']
        exact List.getElem_mem _
      have hb := hr _ hm
      unfold ruleB at hb
      rw [decide_eq_false hn, Bool.false_or, Bool.and_eq_true, Bool.and_eq_true] at hb
      have w1 := inB_iff.1 hb.1
      have w2 := inB_iff.1 hb.2.2
      exact rwOf_good (q := q) hs (by omega) (by omega) b1 ⟨by omega, by rw [← Int.natCast_mul]; omega⟩ w1 (by omega)
  · have hi' := List.mem_range.1 hi
    cases isNo m i
    · rfl
    · exact freeRw_good hs hq h5 b1 (by omega)
  · have hi' := List.mem_range.1 hi
    have g1 := inB9 (x := (i : Int)) (by omega) (by omega)
    have g4 := inB9 (x := m.Symbols + m.States + 1) (by omega) (by omega)
    simp only [eraseRw, List.all_cons, List.all_nil, goodRw, let9, g1, g4]
    rfl
theorem haltL_rews {m : GMachine} {s q : Nat} (hs : m.Symbols = s) (hq : m.States = q) (h5 : m.Symbols + m.States + 1 ≤ 5) (b1 : 2 ≤ s) (hl : m.Rules.length = q * s) (hr : ∀ r ∈ m.Rules, ruleB m.Symbols m.States r = true) (h60 : (haltL m s).length ≤ 60) : rewsB (haltL m s) = true := by
  have hg := haltL_good hs hq h5 b1 hl hr
  have hne : 1 ≤ (haltL m s).length := by
    unfold haltL
    rw [List.length_append]
    have : ((List.range s).flatMap (eraseRw m)).length = s * 2 := flat_const (eraseRw m) 2 (fun k => rfl) s
    omega
  unfold rewsB
  rw [decide_eq_true hne, decide_eq_true h60, Bool.true_and, Bool.true_and, List.all_eq_true]
  intro r hr'
  have h1 := List.all_eq_true.1 hg r hr'
  have h2 := rw_mem hr'
  unfold goodRw let9 at h1
  unfold rewB wordB
  simp only [Bool.and_eq_true, decide_eq_true_eq] at h1 ⊢
  exact ⟨⟨⟨by omega, h1.1.1⟩, ⟨by omega, h1.1.2⟩⟩, h1.2⟩
theorem haltW_word {m : GMachine} {c : GConfig} {s q : Nat} (hs : m.Symbols = s) (hq : m.States = q) (h5 : m.Symbols + m.States + 1 ≤ 5) (b1 : 2 ≤ s) (hc : confB m c = true) (h400 : (haltW m c).length ≤ 400) : wordB (haltW m c) = true := by
  unfold wordB
  rw [decide_eq_true h400, Bool.true_and]
  unfold confB sideB at hc
  simp only [Bool.and_eq_true] at hc
  have hst := inB_iff.1 hc.1
  have side : ∀ xs : List Int, (xs.all fun x => inB x 0 (m.Symbols - 1)) = true → (xs.all fun x => inB x 0 9) = true := fun xs h => by
    rw [List.all_eq_true] at h ⊢
    intro x hx
    have := inB_iff.1 (h x hx)
    exact inB9 (by omega) (by omega)
  have e1 : w64 (m.Symbols + c.State) = m.Symbols + c.State := w64_in (by omega) (by omega)
  have g1 := inB9 (x := m.Symbols + c.State) (by omega) (by omega)
  have g3 := inB9 (x := m.Symbols + m.States) (by omega) (by omega)
  unfold haltW
  rw [e1]
  simp only [List.all_append, List.all_cons, List.all_nil, List.all_reverse, side _ hc.2.1.1.2, side _ hc.2.2.1.2, g1, g3]
  rfl
theorem derW_all {rs : List GRewrite} : ∀ {ss : List (List Int)} {w : List Int}, (derW rs ss w).2 = 0 → ∀ s ∈ ss, s.length = 2
  | [], _, _, s, hs => by simp at hs
  | x :: ss, w, h, s, hs => by
    obtain ⟨h1, h2, h3⟩ := derW_cons h
    rcases List.mem_cons.1 hs with rfl | hs
    · exact h1
    · exact derW_all h3 s hs
def cntS (own : Int) (ss : List (List Int)) : Int := ss.foldl (fun n s => cond (decide (s.getD 0 0 < own)) (w64 (n + 1)) n) 0
theorem cnt_run {R : Type} {body : Int × Int → Option ((Int × Int) ⊕ Out (Int × Int) R)} (own : Int) (ss : List (List Int)) (hn : ss.length ≤ 1048576)
    (h1 : ∀ (n : Int) (i : Nat) (hi : i < ss.length), body (n, (i : Int)) = some (.inl (cond (decide (ss[i].getD 0 0 < own)) (w64 (n + 1)) n, w64 ((i : Int) + 1)))) (h2 : ∀ n, body (n, (ss.length : Int)) = some (.inr (.brk (n, (ss.length : Int))))) :
    run body (0, 0) = some (.brk (cntS own ss, (ss.length : Int))) := by
  have := (run_rowf (body := body) ss (by omega) (fun (a : Int) i => (a, i)) (fun n s => cond (decide (s.getD 0 0 < own)) (w64 (n + 1)) n) (fun _ _ => True) (fun i hi a _ => ⟨h1 a i hi, trivial⟩) 0 trivial).1
  rw [this]
  exact run_done (h2 _)
theorem rws_sml {rs : List GRewrite} (h : rewsB rs = true) : Sml rs := by
  have hl := rewsB_len h
  refine ⟨by omega, fun r hr => ?_⟩
  have := rewsB_mem h hr
  exact ⟨⟨by omega, fun _ _ => trivial⟩, ⟨by omega, fun _ _ => trivial⟩⟩
theorem ex_StepsOfDerivation (m : GMachine) (c : GConfig) (ss : List (List Int)) (s0 : Sml m) (s1 : Sml c) (s2 : Sml ss) :
    ∃ w : Int × Int, F_spec_StepsOfDerivation m c ss = some w ∧ F_impl_StepsOfDerivation m c ss = some w := by
  unfold F_spec_StepsOfDerivation F_impl_StepsOfDerivation
  rw [spec_mach m s0, impl_confV m c s0 s1, bnd_some_eq, bnd_some_eq]
  cases hm : machB m
  · exact ⟨_, rfl, rfl⟩
  obtain ⟨q1, q2⟩ := machB_in hm
  rw [spec_good m c q1 q2 s1]
  simp only [Bool.not_true, cond_false, bnd_some_eq, Bool.true_and]
  cases hc : confB m c
  · exact ⟨_, rfl, rfl⟩
  obtain ⟨l1, l2, _⟩ := confB_len hc
  obtain ⟨e1, e2, _⟩ := border_in hm
  obtain ⟨s, q, hs, hq, b1, b2, b3, b4, hl, b5, hr⟩ := machB_nat hm
  simp only [Bool.not_true, cond_false, bnd_some_eq, Out.elim]
  rw [spec_halt m hm hs hq b1 b2 (by omega), impl_halt m hm hs hq b1 b2 (by omega), spec_haltW m c hm l1 l2, impl_haltW m c hm l1 l2]
  unfold haltWP
  simp only [bnd_some_eq]
  by_cases h5 : 5 < m.Symbols + m.States + 1
  · rw [decide_eq_true h5]
    exact ⟨_, rfl, rfl⟩
  rw [decide_eq_false h5]
  simp only [cond_false]
  rw [show decide ((400 : Int) < ((haltW m c).length : Int)) = decide (400 < (haltW m c).length) by rw [decide_eq_decide]; omega]
  by_cases h60 : (haltL m s).length ≤ 60
  · rw [decide_eq_true h60, decide_eq_false (by omega : ¬ 60 < (haltL m s).length)]
    by_cases h400 : 400 < (haltW m c).length
    · rw [decide_eq_true h400]
      exact ⟨_, rfl, rfl⟩
    rw [decide_eq_false h400]
    have hR := haltL_rews hs hq (by omega) b1 hl hr h60
    have hW := haltW_word hs hq (by omega) b1 hc (by omega)
    simp only [Bool.not_true, cond_false, bnd_some_eq]
    rw [spec_derived (haltL m s) (haltW m c) ss hR (rws_sml hR) hW s2.1, impl_derived (haltL m s) (haltW m c) ss hR hW s2.1]
    rw [decide_eq_false (fun h => h rfl : ¬ ((0 : Int) ≠ 0))]
    simp only [cond_false, bnd_some_eq]
    by_cases hd' : (derP (haltL m s) ss (haltW m c)).2 ≠ 0
    · rw [decide_eq_true hd']; exact ⟨_, rfl, rfl⟩
    have hd := Classical.not_not.1 hd'
    rw [decide_eq_false hd']
    unfold derP at hd ⊢
    by_cases h100 : 100 < ss.length
    · rw [decide_eq_true h100] at hd; simp at hd
    rw [decide_eq_false h100] at hd ⊢
    simp only [cond_false] at hd ⊢
    have hdl : (derW (haltL m s) ss (haltW m c)).1.length ≤ 1048576 := by
      have := derW_len (rs := haltL m s) ss (haltW m c) (by omega)
      omega
    have htgt : F_spec_l32Target m = some (haltT m) := by
      unfold F_spec_l32Target F_spec_l32Eraser F_spec_l16Border
      simp only [bnd_some_eq, e1, e2]
      rfl
    rw [htgt, bnd_some_eq, spec_same _ _ hdl, impl_equal _ _ hdl]
    simp only [bnd_some_eq]
    cases decide ((derW (haltL m s) ss (haltW m c)).1 = haltT m)
    · exact ⟨_, rfl, rfl⟩
    simp only [Bool.not_true, cond_false]
    have hall := derW_all hd
    rw [cnt_run (body := F_spec_StepsOfDerivation_L1 ss (haltL m s, ((ownL m s).length : Int), true)) ((ownL m s).length : Int) ss s2.1 (fun n i hi => by
      obtain ⟨g1, _⟩ := two_get (hall _ (List.getElem_mem hi))
      simp only [F_spec_StepsOfDerivation_L1, Int.ofNat_lt, hi, decide_true, cond_true, idx_nat hi, bnd_some_eq, g1]
      cases decide (ss[i].getD 0 0 < ((ownL m s).length : Int)) <;> rfl) (fun n => by simp [F_spec_StepsOfDerivation_L1]),
      cnt_run (body := F_impl_StepsOfDerivation_L1 ss (haltL m s, ((ownL m s).length : Int), 0)) ((ownL m s).length : Int) ss s2.1 (fun n i hi => by
      obtain ⟨g1, _⟩ := two_get (hall _ (List.getElem_mem hi))
      simp only [F_impl_StepsOfDerivation_L1, Int.ofNat_lt, hi, decide_true, cond_true, idx_nat hi, bnd_some_eq, g1]
      cases decide (ss[i].getD 0 0 < ((ownL m s).length : Int)) <;> rfl) (fun n => by simp [F_impl_StepsOfDerivation_L1])]
    exact ⟨_, rfl, rfl⟩
  · rw [decide_eq_false h60, decide_eq_true (by omega : 60 < (haltL m s).length)]
    cases decide (400 < (haltW m c).length) <;> exact ⟨_, rfl, rfl⟩
theorem law_StepsOfDerivation (m : GMachine) (c : GConfig) (ss : List (List Int)) (w0 : Wf.wf m) (w1 : Wf.wf c) (w2 : Wf.wf ss) : F_laws_FnExactStepsOfDerivation m c ss = some true :=
  lawof_StepsOfDerivation m c ss w0 w1 w2 (ex_StepsOfDerivation m c ss)
end Go.Fn
