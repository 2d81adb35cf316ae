/-
  Machines turned round; the plain law of FnMirrored. No program in sight. No condition.
-/
import Derived.Test.YtgojoooilijiiaaPRnr
namespace Go.Fn
open Go Go.Tc
def mirR (r : GRule) : GRule := ⟨r.Write, w64 (r.Move * (-1)), r.Next⟩
def mirM (m : GMachine) : GMachine := ⟨m.Symbols, m.States, m.Rules.map mirR⟩
def mirC (c : GConfig) : GConfig := ⟨c.State, c.Right.tail, trimL (c.Right.getD 0 0 :: c.Left)⟩
theorem mirR_noR : mirR noR = noR := rfl
theorem mirR_move {r : GRule} (h : r.Move = 1 ∨ r.Move = -1) : (mirR r).Move = - r.Move := by
  unfold mirR
  rcases h with h | h <;> rw [h] <;> rfl
theorem ruleB_or {s q : Int} {r : GRule} (h : ruleB s q r = true) : r = noR ∨ (inB r.Write 0 (s - 1) = true ∧ (r.Move = 1 ∨ r.Move = -1) ∧ inB r.Next 0 (q - 1) = true) := by
  unfold ruleB at h
  simp only [Bool.or_eq_true, Bool.and_eq_true, decide_eq_true_eq] at h
  exact h
theorem ruleB_mir {s q : Int} {r : GRule} (h : ruleB s q r = true) : ruleB s q (mirR r) = true := by
  rcases ruleB_or h with rfl | ⟨h1, h2, h3⟩
  · exact h
  · have hm := mirR_move h2
    unfold ruleB
    rw [show (mirR r).Write = r.Write from rfl, show (mirR r).Next = r.Next from rfl, h1, h3, hm]
    rcases h2 with h2 | h2 <;> rw [h2] <;> simp
theorem mirR_iff {s q : Int} {r : GRule} (h : ruleB s q r = true) : mirR r = noR ↔ r = noR := by
  constructor
  · intro e
    rcases ruleB_or h with h | ⟨_, h2, _⟩
    · exact h
    · have hm := mirR_move h2
      rw [e] at hm
      have : (noR).Move = 0 := rfl
      rw [this] at hm
      omega
  · rintro rfl
    rfl
theorem mirM_ok {m : GMachine} (h : machB m = true) : machB (mirM m) = true := by
  unfold machB at h ⊢
  simp only [Bool.and_eq_true] at h ⊢
  refine ⟨⟨h.1.1, ?_⟩, ?_⟩
  · show decide (((m.Rules.map mirR).length : Int) = _) = true
    rw [List.length_map]
    exact h.1.2
  · show (m.Rules.map mirR).all _ = true
    rw [List.all_map, List.all_eq_true]
    intro r hr
    exact ruleB_mir (List.all_eq_true.1 h.2 r hr)
theorem mir_getD (m : GMachine) (i : Nat) : (mirM m).Rules.getD i noR = mirR (m.Rules.getD i noR) := by
  show (m.Rules.map mirR).getD i noR = _
  rw [List.getD_eq_getElem?_getD, List.getD_eq_getElem?_getD, List.getElem?_map]
  cases m.Rules[i]? <;> rfl
theorem mirC_head (c : GConfig) : (mirC c).Right.getD 0 0 = c.Right.getD 0 0 := by
  show (trimL (c.Right.getD 0 0 :: c.Left)).getD 0 0 = _
  rw [trimL_getD]
  rfl
theorem ruleAt_mir (m : GMachine) (c : GConfig) : ruleAt (mirM m) (mirC c) = mirR (ruleAt m c) := by
  unfold ruleAt
  rw [mirC_head, mir_getD]
  rfl
theorem trim_tail {x : Int} {l : List Int} (h : Tm l) : (trimL (x :: l)).tail = l := by
  rw [h.cons]
  split
  · rename_i e
    rw [e.2]
    rfl
  · rfl
theorem mirC_step {r : GRule} (hm : r.Move = 1 ∨ r.Move = -1) {c : GConfig} (hL : Tm c.Left) (hR : Tm c.Right) : mirC (stepC r c) = stepC (mirR r) (mirC c) := by
  have hm' := mirR_move hm
  rcases hm with hm | hm
  · unfold stepC
    rw [if_pos (by omega), if_neg (by omega)]
    unfold mirC
    simp only
    rw [trim_tail hL]
    rfl
  · unfold stepC
    rw [if_neg (by omega), if_pos (by omega)]
    unfold mirC
    simp only
    rw [trim_tail (Tm.trim _), trim_tail hL, trimL_getD]
    have e : trimL ((c.Left.getD 0 0 :: trimL (r.Write :: c.Right.tail)).getD 0 0 :: c.Left.tail) = c.Left := by
      rw [List.getD_cons_zero]
      cases hl : c.Left with
      | nil => rfl
      | cons x l =>
        rw [hl] at hL
        exact hL
    rw [e]
    rfl
theorem mirC_conf {m : GMachine} {s q : Nat} (M : MaI m s q) {c : GConfig} (h : CfT s q c) (hl : (mirC c).Right.length ≤ 200) : CfT s q (mirC c) := by
  refine ⟨⟨h.cf.st, ?_, ?_, ?_, hl⟩, h.rt.tail, Tm.trim _⟩
  · intro j
    show 0 ≤ c.Right.tail.getD j 0 ∧ c.Right.tail.getD j 0 < s
    rw [tail_getD]
    exact h.cf.rt _
  · intro j
    show 0 ≤ (trimL (c.Right.getD 0 0 :: c.Left)).getD j 0 ∧ (trimL (c.Right.getD 0 0 :: c.Left)).getD j 0 < s
    rw [trimL_getD]
    exact getD_cons_in (h.cf.rt 0) h.cf.lf j
  · have := h.cf.rl
    show c.Right.tail.length ≤ 200
    rw [List.length_tail]
    omega
end Go.Fn
