/-
  The rules of halting derivations are valid; the plain law of StepsOfDerivation. No program in sight. No condition.
-/
import Derived.Test.YtneglngdbcefgaaPHalt
import Derived.Test.YtneglngdbcefgaaPMoD
namespace Go.Fn
open Go Go.Tc
def let9 (xs : List Int) : Bool := xs.all fun x => inB x 0 9
def goodRw (r : GRewrite) : Bool := let9 r.From && let9 r.To && decide (r.From.length ≠ 0)
theorem inB9 {x : Int} (h0 : 0 ≤ x) (h9 : x ≤ 9) : inB x 0 9 = true := inB_iff.2 ⟨h0, h9⟩
theorem rwOf_good {s q : Nat} {S b k : Int} {r : GRule} (hS : S = s) (hb : b = S + (q : Int)) (h5 : b + 1 ≤ 5) (b1 : 2 ≤ s) (hk : 0 ≤ k ∧ k < (q : Int) * (s : Int)) (hw : 0 ≤ r.Write ∧ r.Write ≤ S - 1) (hn : 0 ≤ r.Next ∧ r.Next ≤ (q : Int) - 1) : (rwOf s S b k r).all goodRw = true := by
  have hm : 0 ≤ Int.tmod k S ∧ Int.tmod k S < S := by
    subst hS
    exact ⟨Int.tmod_nonneg _ hk.1, Int.tmod_lt_of_pos _ (by omega)⟩
  have hd : 0 ≤ Int.tdiv k S ∧ Int.tdiv k S < q := by
    subst hS
    rw [Int.tdiv_eq_ediv_of_nonneg hk.1]
    refine ⟨Int.ediv_nonneg hk.1 (by omega), Int.ediv_lt_of_lt_mul (by omega) hk.2⟩
  have e1 : w64 (Int.tdiv k S) = Int.tdiv k S := w64_in (by omega) (by omega)
  have e2 : w64 (S + Int.tdiv k S) = S + Int.tdiv k S := w64_in (by omega) (by omega)
  have e3 : w64 (S + r.Next) = S + r.Next := w64_in (by omega) (by omega)
  have g1 := inB9 (x := S + Int.tdiv k S) (by omega) (by omega)
  have g2 := inB9 (x := Int.tmod k S) (by omega) (by omega)
  have g3 := inB9 (x := S + r.Next) (by omega) (by omega)
  have g4 := inB9 (x := r.Write) (by omega) (by omega)
  have g5 := inB9 (x := b) (by omega) (by omega)
  have g6 := inB9 (x := (0 : Int)) (by omega) (by omega)
  have g7 : ∀ c ∈ List.range s, inB ((c : Nat) : Int) 0 9 = true := fun c hc => by
    have := List.mem_range.1 hc
    exact inB9 (by omega) (by omega)
  unfold rwOf
  rw [e1, e2, e3]
  have f1 : ((List.range s).flatMap fun (c : Nat) => [(⟨[(c : Int), S + Int.tdiv k S, Int.tmod k S], [S + r.Next, (c : Int), r.Write]⟩ : GRewrite)]).all goodRw = true := by
    rw [List.all_flatMap, List.all_eq_true]
    intro c hc
    simp only [List.all_cons, List.all_nil, goodRw, let9, g1, g2, g3, g4, g7 c hc]
    rfl
  have f2 : ((List.range s).flatMap fun (c : Nat) => [(⟨[(c : Int), S + Int.tdiv k S, b], [S + r.Next, (c : Int), r.Write, b]⟩ : GRewrite)]).all goodRw = true := by
    rw [List.all_flatMap, List.all_eq_true]
    intro c hc
    simp only [List.all_cons, List.all_nil, goodRw, let9, g1, g5, g3, g4, g7 c hc]
    rfl
  cases decide (r.Move = 1) <;> cases decide (Int.tmod k S = 0) <;> simp only [cond_true, cond_false, List.all_append, f1, f2, List.all_cons, List.all_nil, goodRw, let9, g1, g2, g3, g4, g5, g6] <;> rfl
theorem freeRw_good {m : GMachine} {s q : Nat} (hs : m.Symbols = s) (hq : m.States = q) (h5 : m.Symbols + m.States + 1 ≤ 5) (b1 : 2 ≤ s) {i : Nat} (hi : i < q * s) : (freeRw m i).all goodRw = true := by
  have hk : (0 : Int) ≤ (i : Int) ∧ (i : Int) < (q : Int) * (s : Int) := ⟨by omega, by rw [← Int.natCast_mul]; omega⟩
  have hm : 0 ≤ Int.tmod (i : Int) m.Symbols ∧ Int.tmod (i : Int) m.Symbols < m.Symbols := ⟨Int.tmod_nonneg _ hk.1, Int.tmod_lt_of_pos _ (by omega)⟩
  have hd : 0 ≤ Int.tdiv (i : Int) m.Symbols ∧ Int.tdiv (i : Int) m.Symbols < q := by
    rw [Int.tdiv_eq_ediv_of_nonneg hk.1, hs]
    refine ⟨Int.ediv_nonneg hk.1 (by omega), Int.ediv_lt_of_lt_mul (by omega) hk.2⟩
  have e1 : w64 (Int.tdiv (i : Int) m.Symbols) = Int.tdiv (i : Int) m.Symbols := w64_in (by omega) (by omega)
  have e2 : w64 (m.Symbols + Int.tdiv (i : Int) m.Symbols) = m.Symbols + Int.tdiv (i : Int) m.Symbols := w64_in (by omega) (by omega)
  have g1 := inB9 (x := m.Symbols + Int.tdiv (i : Int) m.Symbols) (by omega) (by omega)
  have g2 := inB9 (x := Int.tmod (i : Int) m.Symbols) (by omega) (by omega)
  have g3 := inB9 (x := m.Symbols + m.States) (by omega) (by omega)
  have g4 := inB9 (x := m.Symbols + m.States + 1) (by omega) (by omega)
  unfold freeRw
  rw [e1, e2]
  cases decide (Int.tmod (i : Int) m.Symbols = 0) <;> simp only [cond_true, cond_false, List.all_append, List.all_cons, List.all_nil, goodRw, let9, g1, g2, g3, g4] <;> rfl
theorem haltL_good {m : GMachine} {s q : Nat} (hs : m.Symbols = s) (hq : m.States = q) (h5 : m.Symbols + m.States + 1 ≤ 5) (b1 : 2 ≤ s) (hl : m.Rules.length = q * s) (hr : ∀ r ∈ m.Rules, ruleB m.Symbols m.States r = true) : (haltL m s).all goodRw = true := by
  unfold haltL ownL
  rw [List.all_append, List.all_append, List.all_flatMap, List.all_flatMap, List.all_flatMap, Bool.and_eq_true, Bool.and_eq_true, List.all_eq_true, List.all_eq_true, List.all_eq_true]
  refine ⟨⟨fun i hi => ?_, fun i hi => ?_⟩, fun i hi => ?_⟩
  · have hi' := List.mem_range.1 hi
    unfold ownRw
    by_cases hn : m.Rules.getD i noR = noR
    · rw [decide_eq_true hn]; rfl
    · rw [decide_eq_false hn, cond_false]
      have hm : m.Rules.getD i noR ∈ m.Rules := by
        rw [List.getD_eq_getElem?_getD, List.getElem?_eq_getElem hi']
        exact List.getElem_mem _
      have hb := hr _ hm
      unfold ruleB at hb
      rw [decide_eq_false hn, Bool.false_or, Bool.and_eq_true, Bool.and_eq_true] at hb
      have w1 := inB_iff.1 hb.1
      have w2 := inB_iff.1 hb.2.2
      exact rwOf_good (q := q) hs (by omega) (by omega) b1 ⟨by omega, by rw [← Int.natCast_mul]; omega⟩ w1 (by omega)
  · have hi' := List.mem_range.1 hi
    cases isNo m i
    · rfl
    · exact freeRw_good hs hq h5 b1 (by omega)
  · have hi' := List.mem_range.1 hi
    have g1 := inB9 (x := (i : Int)) (by omega) (by omega)
    have g4 := inB9 (x := m.Symbols + m.States + 1) (by omega) (by omega)
    simp only [eraseRw, List.all_cons, List.all_nil, goodRw, let9, g1, g4]
    rfl
theorem haltL_rews {m : GMachine} {s q : Nat} (hs : m.Symbols = s) (hq : m.States = q) (h5 : m.Symbols + m.States + 1 ≤ 5) (b1 : 2 ≤ s) (hl : m.Rules.length = q * s) (hr : ∀ r ∈ m.Rules, ruleB m.Symbols m.States r = true) (h60 : (haltL m s).length ≤ 60) : rewsB (haltL m s) = true := by
  have hg := haltL_good hs hq h5 b1 hl hr
  have hne : 1 ≤ (haltL m s).length := by
    unfold haltL
    rw [List.length_append]
    have : ((List.range s).flatMap (eraseRw m)).length = s * 2 := flat_const (eraseRw m) 2 (fun k => rfl) s
    omega
  unfold rewsB
  rw [decide_eq_true hne, decide_eq_true h60, Bool.true_and, Bool.true_and, List.all_eq_true]
  intro r hr'
  have h1 := List.all_eq_true.1 hg r hr'
  have h2 := rw_mem hr'
  unfold goodRw let9 at h1
  unfold rewB wordB
  simp only [Bool.and_eq_true, decide_eq_true_eq] at h1 ⊢
  exact ⟨⟨⟨by omega, h1.1.1⟩, ⟨by omega, h1.1.2⟩⟩, h1.2⟩
end Go.Fn
