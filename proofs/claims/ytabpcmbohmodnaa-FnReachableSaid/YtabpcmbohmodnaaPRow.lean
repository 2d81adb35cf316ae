/-
  Configurations; the plain law of RowOfConfig. No program in sight. No condition.
-/
import Derived.Test.YtabpcmbohmodnaaPConf
import Derived.Test.YtabpcmbohmodnaaPPlain
namespace Go.Fn
open Go Go.Tc
def sideB (s : Int) (xs : List Int) : Bool := decide (xs.length ≤ 200) && (xs.all fun x => inB x 0 (s - 1)) && (decide (xs.length = 0) || decide (xs.getLastD 0 ≠ 0))
def confB (m : GMachine) (c : GConfig) : Bool := inB c.State 0 (m.States - 1) && (sideB m.Symbols c.Left && sideB m.Symbols c.Right)
theorem impl_side (xs : List Int) (s : Int) (hs : 0 ≤ s ∧ s ≤ 1000000) (h : xs.length ≤ 1048576) : F_impl_validSide xs s 200 = some (sideB s xs) := by
  unfold F_impl_validSide sideB F_impl_size_int64
  have e : w64 (s - 1) = s - 1 := w64_in (by omega) (by omega)
  rw [bnd_some_eq, e, impl_allWithin xs 0 (s - 1) h]
  by_cases hl : xs.length ≤ 200
  · rw [decide_eq_true (by omega : (xs.length : Int) ≤ 200), decide_eq_true hl]
    cases xs.all fun x => inB x 0 (s - 1)
    · rfl
    · simp only [cond_true, bnd_some_eq, Bool.true_and]
      by_cases h0 : xs.length = 0
      · rw [decide_eq_true (by omega : (xs.length : Int) = 0), decide_eq_true h0]; rfl
      · rw [decide_eq_false (by omega : ¬ (xs.length : Int) = 0), decide_eq_false h0, idx_last h0 h]; rfl
  · rw [decide_eq_false (by omega : ¬ (xs.length : Int) ≤ 200), decide_eq_false hl]; rfl
theorem impl_confOf (m : GMachine) (c : GConfig) (hs : 0 ≤ m.Symbols ∧ m.Symbols ≤ 1000000) (hq : 0 ≤ m.States ∧ m.States ≤ 1000000) (h : Sml c) : F_impl_configOf m c = some (confB m c) := by
  unfold F_impl_configOf confB
  rw [w64_in (by omega) (by omega), impl_in, bnd_some_eq, impl_side c.Left _ hs h.1.1, impl_side c.Right _ hs h.2.1]
  cases inB c.State 0 (m.States - 1)
  · rfl
  · cases sideB m.Symbols c.Left <;> rfl
theorem machB_in {m : GMachine} (h : machB m = true) : (0 ≤ m.Symbols ∧ m.Symbols ≤ 1000000) ∧ (0 ≤ m.States ∧ m.States ≤ 1000000) := by
  obtain ⟨s, q, hs, hq, b1, b2, b3, b4, _⟩ := machB_nat h
  omega
theorem impl_confV (m : GMachine) (c : GConfig) (s0 : Sml m) (s1 : Sml c) : F_impl_ValidConfig m c = some (machB m && confB m c) := by
  unfold F_impl_ValidConfig
  rw [impl_mach m s0, bnd_some_eq]
  cases hm : machB m
  · rfl
  · obtain ⟨h1, h2⟩ := machB_in hm
    rw [cond_true, impl_confOf m c h1 h2 s1]
    rfl
theorem confB_len {m : GMachine} {c : GConfig} (h : confB m c = true) : c.Left.length ≤ 200 ∧ c.Right.length ≤ 200 ∧ 0 ≤ c.State ∧ c.State ≤ m.States - 1 := by
  unfold confB sideB at h
  simp only [Bool.and_eq_true, decide_eq_true_eq] at h
  have := inB_iff.1 h.1
  exact ⟨h.2.1.1.1, h.2.2.1.1, this.1, this.2⟩
def rowC (c : GConfig) (W A : Nat) : List Int := (List.range W).map fun i => if i < A then c.Left.getD (A - 1 - i) 0 else c.Right.getD (i - A) 0
theorem rowC_eq (c : GConfig) {W A : Nat} (h : A ≤ W) : rowC c W A = ((List.range A).map fun i => c.Left.getD i 0).reverse ++ (List.range (W - A)).map fun i => c.Right.getD i 0 := by
  unfold rowC
  apply List.ext_getElem
  · simp; omega
  · intro i h1 h2
    simp only [List.getElem_map, List.getElem_range]
    by_cases hi : i < A
    · rw [if_pos hi, List.getElem_append_left (by simpa using hi), List.getElem_reverse]
      simp
    · rw [if_neg hi, List.getElem_append_right (by simp; omega)]
      simp
end Go.Fn
