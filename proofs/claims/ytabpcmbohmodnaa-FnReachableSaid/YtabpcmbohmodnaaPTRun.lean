/-
  Runs as tilings; the plain law of TilingOfRun. No program in sight. No condition.
-/
import Derived.Test.YtabpcmbohmodnaaPRow
namespace Go.Fn
open Go Go.Tc
theorem trimL_getD (xs : List Int) (j : Nat) : (trimL xs).getD j 0 = xs.getD j 0 := by
  obtain ⟨n, hn⟩ : ∃ n, xs.length = n := ⟨_, rfl⟩
  induction n generalizing xs with
  | zero =>
    obtain rfl := List.eq_nil_of_length_eq_zero hn
    rfl
  | succ n ih =>
    rcases snoc_cases xs with rfl | ⟨ys, y, rfl⟩
    · simp at hn
    · rw [trimL_snoc]
      by_cases h : y = 0
      · rw [if_pos h, ih ys (by simpa using hn)]
        subst h
        rw [List.getD_eq_getElem?_getD, List.getD_eq_getElem?_getD, List.getElem?_append]
        split
        · rfl
        · rename_i h2
          rw [List.getElem?_eq_none (by omega)]
          cases hj : j - ys.length <;> simp
      · rw [if_neg h]
theorem tail_getD (xs : List Int) (j : Nat) : xs.tail.getD j 0 = xs.getD (j + 1) 0 := by
  cases xs <;> simp
/-- A step by the rule r. -/
def stepC (r : GRule) (c : GConfig) : GConfig :=
  if 0 < r.Move then ⟨r.Next, trimL (r.Write :: c.Left), c.Right.tail⟩ else ⟨r.Next, c.Left.tail, trimL (c.Left.getD 0 0 :: trimL (r.Write :: c.Right.tail))⟩
theorem stepC_len (r : GRule) (c : GConfig) : (stepC r c).Left.length ≤ c.Left.length + 1 ∧ (stepC r c).Right.length ≤ c.Right.length + 2 := by
  unfold stepC
  have h1 := trimL_len (r.Write :: c.Left)
  have h2 := trimL_len (r.Write :: c.Right.tail)
  have h3 := trimL_len (c.Left.getD 0 0 :: trimL (r.Write :: c.Right.tail))
  have h4 : c.Right.tail.length ≤ c.Right.length := by simp
  have h5 : c.Left.tail.length ≤ c.Left.length := by simp
  simp only [List.length_cons] at h1 h2 h3
  split
  · simp only
    omega
  · simp only
    omega
theorem rowC_len (c : GConfig) (W A : Nat) : (rowC c W A).length = W := by simp [rowC]
theorem rowC_getD (c : GConfig) {W A i : Nat} (h : i < W) : (rowC c W A).getD i 0 = if i < A then c.Left.getD (A - 1 - i) 0 else c.Right.getD (i - A) 0 := by
  rw [List.getD_eq_getElem?_getD, List.getElem?_eq_getElem (by simpa [rowC] using h)]
  simp [rowC]
theorem rowC_right (r : GRule) (c : GConfig) {W A : Nat} (hA : A + 1 < W) (hm : r.Move = 1) : rowC (stepC r c) W (A + 1) = (rowC c W A).set A r.Write := by
  apply List.ext_getElem?
  intro i
  by_cases hi : i < W
  · have e1 := rowC_getD (stepC r c) (A := A + 1) hi
    have e2 := rowC_getD c (A := A) hi
    rw [List.getElem?_set, List.getElem?_eq_getElem (by rw [rowC_len]; exact hi)]
    rw [List.getD_eq_getElem?_getD, List.getElem?_eq_getElem (by rw [rowC_len]; exact hi), Option.getD_some] at e1 e2
    have es : stepC r c = ⟨r.Next, trimL (r.Write :: c.Left), c.Right.tail⟩ := by
      unfold stepC
      rw [if_pos (by omega)]
    rw [e1, rowC_len, es]
    by_cases h1 : A = i
    · subst h1
      rw [if_pos rfl, if_pos hi, if_pos (by omega), trimL_getD, show A + 1 - 1 - A = 0 by omega]
      rfl
    · rw [if_neg h1, List.getElem?_eq_getElem (by rw [rowC_len]; exact hi), e2]
      by_cases h2 : i < A
      · rw [if_pos (by omega), if_pos h2, trimL_getD, show A + 1 - 1 - i = (A - 1 - i) + 1 by omega]
        rfl
      · rw [if_neg (by omega), if_neg h2, tail_getD, show i - (A + 1) + 1 = i - A by omega]
  · rw [List.getElem?_eq_none (by rw [rowC_len]; omega), List.getElem?_eq_none (by rw [List.length_set, rowC_len]; omega)]
theorem rowC_left (r : GRule) (c : GConfig) {W A : Nat} (hA : A + 1 < W) (hm : r.Move = -1) : rowC (stepC r c) W A = (rowC c W (A + 1)).set (A + 1) r.Write := by
  apply List.ext_getElem?
  intro i
  by_cases hi : i < W
  · have e1 := rowC_getD (stepC r c) (A := A) hi
    have e2 := rowC_getD c (A := A + 1) hi
    rw [List.getElem?_set, List.getElem?_eq_getElem (by rw [rowC_len]; exact hi)]
    rw [List.getD_eq_getElem?_getD, List.getElem?_eq_getElem (by rw [rowC_len]; exact hi), Option.getD_some] at e1 e2
    have es : stepC r c = ⟨r.Next, c.Left.tail, trimL (c.Left.getD 0 0 :: trimL (r.Write :: c.Right.tail))⟩ := by
      unfold stepC
      rw [if_neg (by omega)]
    rw [e1, rowC_len, es]
    by_cases h1 : A + 1 = i
    · subst h1
      rw [if_pos rfl, if_pos hi, if_neg (by omega), trimL_getD, show A + 1 - A = 0 + 1 by omega, List.getD_cons_succ, trimL_getD]
      rfl
    · rw [if_neg h1, List.getElem?_eq_getElem (by rw [rowC_len]; exact hi), e2]
      by_cases h2 : i < A
      · rw [if_pos (by omega), if_pos (by omega), tail_getD, show A - 1 - i + 1 = A + 1 - 1 - i by omega]
      · rw [if_neg h2, trimL_getD]
        by_cases h3 : i = A
        · subst h3
          rw [if_pos (by omega), show i - i = 0 by omega, show i + 1 - 1 - i = 0 by omega]
          rfl
        · rw [if_neg (by omega), show i - A = (i - A - 1 - 1) + 1 + 1 by omega, List.getD_cons_succ, trimL_getD, List.getD_cons_succ, tail_getD, show i - A - 1 - 1 + 1 = i - (A + 1) by omega]
  · rw [List.getElem?_eq_none (by rw [rowC_len]; omega), List.getElem?_eq_none (by rw [List.length_set, rowC_len]; omega)]
theorem headC_eq {m : GMachine} {s q : Nat} (hs : m.Symbols = s) (b2 : s ≤ 6) (b4 : q ≤ 1000) {p a : Nat} (hp : p < q) (ha : a < s) : headC m p a = ((s * (p + 1) + a : Nat) : Int) := by
  have e1 : w64 ((p : Int) + 1) = ((p + 1 : Nat) : Int) := w64_nat1 (by omega)
  have h1 : s * (p + 1) ≤ 6 * 1000 := Nat.mul_le_mul b2 (by omega)
  have e2 : w64 (m.Symbols * ((p + 1 : Nat) : Int)) = ((s * (p + 1) : Nat) : Int) := by rw [hs]; exact w64_mul (by omega)
  unfold headC
  rw [e1, e2, w64_add (by omega)]
theorem headC_inj {m : GMachine} {s q : Nat} (hs : m.Symbols = s) (b2 : s ≤ 6) (b4 : q ≤ 1000) {p a p' a' : Nat} (hp : p < q) (ha : a < s) (hp' : p' < q) (ha' : a' < s) (h : headC m p a = headC m p' a') : p = p' ∧ a = a' := by
  rw [headC_eq hs b2 b4 hp ha, headC_eq hs b2 b4 hp' ha'] at h
  have h' : s * (p + 1) + a = s * (p' + 1) + a' := by omega
  have d1 : (s * (p + 1) + a) / s = p + 1 := by rw [Nat.mul_add_div (by omega), Nat.div_eq_of_lt ha, Nat.add_zero]
  have d2 : (s * (p' + 1) + a') / s = p' + 1 := by rw [Nat.mul_add_div (by omega), Nat.div_eq_of_lt ha', Nat.add_zero]
  rw [h', d2] at d1
  have : p = p' := by omega
  subst this
  exact ⟨rfl, by omega⟩
/-- The rule that is looked at. -/
def ruleAt (m : GMachine) (c : GConfig) : GRule := m.Rules.getD (w64 ((w64 (c.State * m.Symbols)) + c.Right.getD 0 0)).toNat noR
/-- What is kept of a configuration while it runs. -/
structure CfI (s q N : Nat) (c : GConfig) : Prop where
  st : ∃ p : Nat, c.State = p ∧ p < q
  lf : ∀ j, 0 ≤ c.Left.getD j 0 ∧ c.Left.getD j 0 < s
  rt : ∀ j, 0 ≤ c.Right.getD j 0 ∧ c.Right.getD j 0 < s
  ll : c.Left.length ≤ N
  rl : c.Right.length ≤ N
theorem getD_cons_in {x : Int} {l : List Int} {s : Nat} (hx : 0 ≤ x ∧ x < s) (hl : ∀ j, 0 ≤ l.getD j 0 ∧ l.getD j 0 < s) : ∀ j, 0 ≤ (x :: l).getD j 0 ∧ (x :: l).getD j 0 < s := fun j => by
  cases j with
  | zero => exact hx
  | succ j => rw [List.getD_cons_succ]; exact hl j
theorem CfI.step {s q N : Nat} {c : GConfig} (h : CfI s q N c) {r : GRule} (h1 : 0 ≤ r.Write ∧ r.Write < s) (h2 : 0 ≤ r.Next ∧ r.Next < q) : CfI s q (N + 2) (stepC r c) := by
  have hl := stepC_len r c
  have e1 : ∀ j, 0 ≤ (trimL (r.Write :: c.Left)).getD j 0 ∧ (trimL (r.Write :: c.Left)).getD j 0 < s := fun j => by rw [trimL_getD]; exact getD_cons_in h1 h.lf j
  have e2 : ∀ j, 0 ≤ c.Right.tail.getD j 0 ∧ c.Right.tail.getD j 0 < s := fun j => by rw [tail_getD]; exact h.rt _
  have e3 : ∀ j, 0 ≤ c.Left.tail.getD j 0 ∧ c.Left.tail.getD j 0 < s := fun j => by rw [tail_getD]; exact h.lf _
  have e4 : ∀ j, 0 ≤ (trimL (c.Left.getD 0 0 :: trimL (r.Write :: c.Right.tail))).getD j 0 ∧ (trimL (c.Left.getD 0 0 :: trimL (r.Write :: c.Right.tail))).getD j 0 < s := fun j => by
    rw [trimL_getD]
    exact getD_cons_in (h.lf 0) (fun j => by rw [trimL_getD]; exact getD_cons_in h1 e2 j) j
  have := h.ll
  have := h.rl
  refine ⟨⟨r.Next.toNat, ?_, by omega⟩, ?_, ?_, by omega, by omega⟩
  · unfold stepC
    split <;> (simp only; omega)
  · unfold stepC
    split
    · exact e1
    · exact e3
  · unfold stepC
    split
    · exact e2
    · exact e4
theorem CfI.row {s q N : Nat} {c : GConfig} (h : CfI s q N c) {W A i : Nat} (hi : i < W) : 0 ≤ (rowC c W A).getD i 0 ∧ (rowC c W A).getD i 0 < s := by
  rw [rowC_getD c hi]
  split
  · exact h.lf _
  · exact h.rt _
/-- The machine's facts, in one. -/
structure MaI (m : GMachine) (s q : Nat) : Prop where
  hs : m.Symbols = s
  hq : m.States = q
  b1 : 2 ≤ s
  b2 : s ≤ 6
  b3 : 1 ≤ q
  b4 : q ≤ 1000
  hl : m.Rules.length = q * s
  b5 : q * s ≤ 6000
  hr : ∀ r ∈ m.Rules, ruleB m.Symbols m.States r = true
theorem at_eq {m : GMachine} {s q N : Nat} (M : MaI m s q) {c : GConfig} (h : CfI s q N c) : ∃ p a : Nat, c.State = p ∧ c.Right.getD 0 0 = a ∧ p < q ∧ a < s ∧ w64 ((w64 (c.State * m.Symbols)) + c.Right.getD 0 0) = ((p * s + a : Nat) : Int) ∧ p * s + a < q * s := by
  obtain ⟨p, hp, hpq⟩ := h.st
  have h0 := h.rt 0
  have hlt := at_lt hpq (show (c.Right.getD 0 0).toNat < s by omega)
  have := M.b5
  refine ⟨p, (c.Right.getD 0 0).toNat, hp, by omega, hpq, by omega, ?_, hlt⟩
  rw [hp, M.hs, w64_mul (by omega), show c.Right.getD 0 0 = ((c.Right.getD 0 0).toNat : Int) by omega, w64_add (by omega)]
  simp
theorem ruleAt_idx {m : GMachine} {s q N : Nat} (M : MaI m s q) {c : GConfig} (h : CfI s q N c) : idx m.Rules (w64 ((w64 (c.State * m.Symbols)) + c.Right.getD 0 0)) = some (ruleAt m c) ∧ ruleAt m c ∈ m.Rules := by
  obtain ⟨p, a, hp, ha, hpq, has, e, hlt⟩ := at_eq M h
  have hlt' : p * s + a < m.Rules.length := by rw [M.hl]; exact hlt
  unfold ruleAt
  rw [e, idx_nat hlt', Int.toNat_natCast, List.getD_eq_getElem?_getD, List.getElem?_eq_getElem hlt']
  exact ⟨rfl, List.getElem_mem _⟩
theorem rule_in {m : GMachine} {s q : Nat} (M : MaI m s q) {r : GRule} (h : r ∈ m.Rules) (hn : r ≠ noR) : (0 ≤ r.Write ∧ r.Write < s) ∧ (r.Move = 1 ∨ r.Move = -1) ∧ (0 ≤ r.Next ∧ r.Next < q) := by
  have hb := M.hr r h
  unfold ruleB at hb
  rw [decide_eq_false hn, Bool.false_or, Bool.and_eq_true, Bool.and_eq_true] at hb
  have w1 := inB_iff.1 hb.1
  have w2 := inB_iff.1 hb.2.2
  have w3 := hb.2.1
  simp only [Bool.or_eq_true, decide_eq_true_eq] at w3
  have := M.hs
  have := M.hq
  exact ⟨by omega, w3, by omega⟩
theorem get_getD {xs : List Int} {i : Nat} (h : i < xs.length) : xs[i] = xs.getD i 0 := by
  rw [List.getD_eq_getElem?_getD, List.getElem?_eq_getElem h]
  rfl
theorem set_getD {xs : List Int} {i j : Nat} {v : Int} (h : j < xs.length) : (xs.set i v).getD j 0 = if i = j then v else xs.getD j 0 := by
  rw [List.getD_eq_getElem?_getD, List.getD_eq_getElem?_getD, List.getElem?_set]
  by_cases e : i = j
  · subst e
    simp [h]
  · simp [e]
theorem impl_isRule (r : GRule) : F_impl_isRule r = some (!decide (r = noR)) := rfl
theorem confB_cfi {m : GMachine} {s q : Nat} (M : MaI m s q) {c : GConfig} (h : confB m c = true) : CfI s q 200 c := by
  have hl := confB_len h
  unfold confB sideB at h
  simp only [Bool.and_eq_true, decide_eq_true_eq] at h
  have h1 := inB_iff.1 h.1
  have hs := M.hs
  have hq := M.hq
  have b1 := M.b1
  have side : ∀ xs : List Int, (xs.all fun x => inB x 0 (m.Symbols - 1)) = true → ∀ j, 0 ≤ xs.getD j 0 ∧ xs.getD j 0 < s := by
    intro xs hx j
    rw [List.getD_eq_getElem?_getD]
    cases hj : xs[j]? with
    | none => simp; omega
    | some y =>
      have := inB_iff.1 (List.all_eq_true.1 hx y (List.mem_of_getElem? hj))
      simp only [Option.getD_some]
      omega
  exact ⟨⟨c.State.toNat, by omega, by omega⟩, side _ h.2.1.1.2, side _ h.2.2.1.2, hl.1, hl.2.1⟩
theorem machB_mai {m : GMachine} (h : machB m = true) : ∃ s q, MaI m s q := by
  obtain ⟨s, q, hs, hq, b1, b2, b3, b4, hl, b5, hr⟩ := machB_nat h
  exact ⟨s, q, hs, hq, b1, b2, b3, b4, hl, b5, hr⟩
theorem rowsT_fit {xs : List (List Int)} (h1 : xs.length ≤ 40) (h2 : ∀ x ∈ xs, x.length ≤ 30) : Med xs ∧ Cnt.cnt xs ≤ 1152921504606846976 := by
  refine ⟨⟨by omega, fun x hx => ⟨by have := h2 x hx; omega, fun _ _ => trivial⟩⟩, ?_⟩
  refine Nat.le_trans (cnt_le (n := 40) (m := 30) h1 fun x hx => ?_) (by decide)
  rw [cnt_ints]
  exact h2 x hx
end Go.Fn
