/-
  Each exact law holds if the reference and the program give the same, small enough: printed by program. No condition.
-/
import Derived.Test.YtceimgjcikkadaaHelp
namespace Go.Fn
open Go Go.Tc
set_option linter.unusedVariables false
theorem cb0 (xs : (List GRule)) (h : Sml xs) : Cnt.cnt xs ≤ 3145728 := cnt_le (n := 1048576) (m := 3) h.1 (fun x hx => by
    skip
    show 1 + 1 + 1 ≤ 3
    omega)
theorem cb1 (xs : (List Int)) (h : Sml xs) : Cnt.cnt xs ≤ 1048576 := cnt_le (n := 1048576) (m := 1) h.1 (fun _ _ => Nat.le_refl _)
theorem lawof_BinaryMachine (p0 : GMachine) (w0 : Wf.wf p0) (h : Sml p0 → ∃ w : GMachine × Int, F_spec_BinaryMachine p0 = some w ∧ F_impl_BinaryMachine p0 = some w ∧ Med w.1 ∧ Cnt.cnt w.1.Rules ≤ 1152921504606846976) : F_laws_FnExactBinaryMachine p0 = some true := by
  unfold F_laws_FnExactBinaryMachine
  obtain ⟨q0, hq0, k0⟩ := sz_Machine p0 w0 1048576 (by omega) (by omega)
  rw [hq0, bnd_some_eq]
  rcases k0 with k0 | ⟨a0, b0, s0⟩
  · rw [decide_eq_true k0]; rfl
  rw [decide_eq_false (by omega)]
  simp only [cond_false]
  obtain ⟨w, hs, hi, m0, hc⟩ := h s0
  have cx0 := cb0 p0.Rules s0
  obtain ⟨yx0, ex0, _⟩ := mark_RuleS p0.Rules (1) (Sml.med s0) (by omega) (by omega)
  have nx : ¬ (1 + (Cnt.cnt p0.Rules : Int) < 0) := by omega
  obtain ⟨yg0, eg0, gg0⟩ := mark_RuleS w.1.Rules (1) m0 (by omega) (by omega)
  have ng0 : ¬ (1 + (Cnt.cnt w.1.Rules : Int) < 0) := by omega
  simp [hs, hi, Out.elim, ex0, nx, eg0, gg0, ng0, to_Machine p0 s0, eq_Machine p0 s0.med, eq_Machine w.1 m0, F_laws_heldMachine]
theorem lawof_FoldMachine (p0 : GMachine) (w0 : Wf.wf p0) (h : Sml p0 → ∃ w : GMachine × Int, F_spec_FoldMachine p0 = some w ∧ F_impl_FoldMachine p0 = some w ∧ Med w.1 ∧ Cnt.cnt w.1.Rules ≤ 1152921504606846976) : F_laws_FnExactFoldMachine p0 = some true := by
  unfold F_laws_FnExactFoldMachine
  obtain ⟨q0, hq0, k0⟩ := sz_Machine p0 w0 1048576 (by omega) (by omega)
  rw [hq0, bnd_some_eq]
  rcases k0 with k0 | ⟨a0, b0, s0⟩
  · rw [decide_eq_true k0]; rfl
  rw [decide_eq_false (by omega)]
  simp only [cond_false]
  obtain ⟨w, hs, hi, m0, hc⟩ := h s0
  have cx0 := cb0 p0.Rules s0
  obtain ⟨yx0, ex0, _⟩ := mark_RuleS p0.Rules (1) (Sml.med s0) (by omega) (by omega)
  have nx : ¬ (1 + (Cnt.cnt p0.Rules : Int) < 0) := by omega
  obtain ⟨yg0, eg0, gg0⟩ := mark_RuleS w.1.Rules (1) m0 (by omega) (by omega)
  have ng0 : ¬ (1 + (Cnt.cnt w.1.Rules : Int) < 0) := by omega
  simp [hs, hi, Out.elim, ex0, nx, eg0, gg0, ng0, to_Machine p0 s0, eq_Machine p0 s0.med, eq_Machine w.1 m0, F_laws_heldMachine]
theorem lawof_FoldConfig (p0 : GMachine) (p1 : GConfig) (w0 : Wf.wf p0) (w1 : Wf.wf p1) (h : Sml p0 → Sml p1 → ∃ w : GConfig × Int, F_spec_FoldConfig p0 p1 = some w ∧ F_impl_FoldConfig p0 p1 = some w ∧ Med w.1 ∧ Cnt.cnt w.1.Left + Cnt.cnt w.1.Right ≤ 1152921504606846976) : F_laws_FnExactFoldConfig p0 p1 = some true := by
  unfold F_laws_FnExactFoldConfig
  obtain ⟨q0, hq0, k0⟩ := sz_Machine p0 w0 1048576 (by omega) (by omega)
  rw [hq0, bnd_some_eq]
  rcases k0 with k0 | ⟨a0, b0, s0⟩
  · rw [decide_eq_true k0]; rfl
  rw [decide_eq_false (by omega)]
  simp only [cond_false]
  obtain ⟨q1, hq1, k1⟩ := sz_Config p1 w1 q0 (by omega) (by omega)
  rw [hq1, bnd_some_eq]
  rcases k1 with k1 | ⟨a1, b1, s1⟩
  · rw [decide_eq_true k1]; rfl
  rw [decide_eq_false (by omega)]
  simp only [cond_false]
  obtain ⟨w, hs, hi, m0, hc⟩ := h s0 s1
  have cx0 := cb0 p0.Rules s0
  have cx1 := cb1 p1.Left s1.1
  have cx2 := cb1 p1.Right s1.2
  obtain ⟨yx0, ex0, _⟩ := mark_RuleS p0.Rules (1) (Sml.med s0) (by omega) (by omega)
  obtain ⟨yx1, ex1, _⟩ := mark_Int64S p1.Left (1 + (Cnt.cnt p0.Rules : Int)) (Sml.med s1.1) (by omega) (by omega)
  obtain ⟨yx2, ex2, _⟩ := mark_Int64S p1.Right (1 + (Cnt.cnt p0.Rules : Int) + (Cnt.cnt p1.Left : Int)) (Sml.med s1.2) (by omega) (by omega)
  have nx : ¬ (1 + (Cnt.cnt p0.Rules : Int) + (Cnt.cnt p1.Left : Int) + (Cnt.cnt p1.Right : Int) < 0) := by omega
  obtain ⟨yg0, eg0, gg0⟩ := mark_Int64S w.1.Left (1) m0.1 (by omega) (by omega)
  have ng0 : ¬ (1 + (Cnt.cnt w.1.Left : Int) < 0) := by omega
  obtain ⟨yg1, eg1, gg1⟩ := mark_Int64S w.1.Right (1 + (Cnt.cnt w.1.Left : Int)) m0.2 (by omega) (by omega)
  have ng1 : ¬ (1 + (Cnt.cnt w.1.Left : Int) + (Cnt.cnt w.1.Right : Int) < 0) := by omega
  simp [hs, hi, Out.elim, ex0, ex1, ex2, nx, eg0, gg0, ng0, eg1, gg1, ng1, to_Machine p0 s0, eq_Machine p0 s0.med, to_Config p1 s1, eq_Config p1 s1.med, eq_Config w.1 m0, F_laws_heldConfig]
theorem lawof_BinaryConfig (p0 : GMachine) (p1 : GConfig) (w0 : Wf.wf p0) (w1 : Wf.wf p1) (h : Sml p0 → Sml p1 → ∃ w : GConfig × Int, F_spec_BinaryConfig p0 p1 = some w ∧ F_impl_BinaryConfig p0 p1 = some w ∧ Med w.1 ∧ Cnt.cnt w.1.Left + Cnt.cnt w.1.Right ≤ 1152921504606846976) : F_laws_FnExactBinaryConfig p0 p1 = some true := by
  unfold F_laws_FnExactBinaryConfig
  obtain ⟨q0, hq0, k0⟩ := sz_Machine p0 w0 1048576 (by omega) (by omega)
  rw [hq0, bnd_some_eq]
  rcases k0 with k0 | ⟨a0, b0, s0⟩
  · rw [decide_eq_true k0]; rfl
  rw [decide_eq_false (by omega)]
  simp only [cond_false]
  obtain ⟨q1, hq1, k1⟩ := sz_Config p1 w1 q0 (by omega) (by omega)
  rw [hq1, bnd_some_eq]
  rcases k1 with k1 | ⟨a1, b1, s1⟩
  · rw [decide_eq_true k1]; rfl
  rw [decide_eq_false (by omega)]
  simp only [cond_false]
  obtain ⟨w, hs, hi, m0, hc⟩ := h s0 s1
  have cx0 := cb0 p0.Rules s0
  have cx1 := cb1 p1.Left s1.1
  have cx2 := cb1 p1.Right s1.2
  obtain ⟨yx0, ex0, _⟩ := mark_RuleS p0.Rules (1) (Sml.med s0) (by omega) (by omega)
  obtain ⟨yx1, ex1, _⟩ := mark_Int64S p1.Left (1 + (Cnt.cnt p0.Rules : Int)) (Sml.med s1.1) (by omega) (by omega)
  obtain ⟨yx2, ex2, _⟩ := mark_Int64S p1.Right (1 + (Cnt.cnt p0.Rules : Int) + (Cnt.cnt p1.Left : Int)) (Sml.med s1.2) (by omega) (by omega)
  have nx : ¬ (1 + (Cnt.cnt p0.Rules : Int) + (Cnt.cnt p1.Left : Int) + (Cnt.cnt p1.Right : Int) < 0) := by omega
  obtain ⟨yg0, eg0, gg0⟩ := mark_Int64S w.1.Left (1) m0.1 (by omega) (by omega)
  have ng0 : ¬ (1 + (Cnt.cnt w.1.Left : Int) < 0) := by omega
  obtain ⟨yg1, eg1, gg1⟩ := mark_Int64S w.1.Right (1 + (Cnt.cnt w.1.Left : Int)) m0.2 (by omega) (by omega)
  have ng1 : ¬ (1 + (Cnt.cnt w.1.Left : Int) + (Cnt.cnt w.1.Right : Int) < 0) := by omega
  simp [hs, hi, Out.elim, ex0, ex1, ex2, nx, eg0, gg0, ng0, eg1, gg1, ng1, to_Machine p0 s0, eq_Machine p0 s0.med, to_Config p1 s1, eq_Config p1 s1.med, eq_Config w.1 m0, F_laws_heldConfig]
theorem lawof_DecodeBinary (p0 : GMachine) (p1 : GConfig) (w0 : Wf.wf p0) (w1 : Wf.wf p1) (h : Sml p0 → Sml p1 → ∃ w : GConfig × Int, F_spec_DecodeBinary p0 p1 = some w ∧ F_impl_DecodeBinary p0 p1 = some w ∧ Med w.1 ∧ Cnt.cnt w.1.Left + Cnt.cnt w.1.Right ≤ 1152921504606846976) : F_laws_FnExactDecodeBinary p0 p1 = some true := by
  unfold F_laws_FnExactDecodeBinary
  obtain ⟨q0, hq0, k0⟩ := sz_Machine p0 w0 1048576 (by omega) (by omega)
  rw [hq0, bnd_some_eq]
  rcases k0 with k0 | ⟨a0, b0, s0⟩
  · rw [decide_eq_true k0]; rfl
  rw [decide_eq_false (by omega)]
  simp only [cond_false]
  obtain ⟨q1, hq1, k1⟩ := sz_Config p1 w1 q0 (by omega) (by omega)
  rw [hq1, bnd_some_eq]
  rcases k1 with k1 | ⟨a1, b1, s1⟩
  · rw [decide_eq_true k1]; rfl
  rw [decide_eq_false (by omega)]
  simp only [cond_false]
  obtain ⟨w, hs, hi, m0, hc⟩ := h s0 s1
  have cx0 := cb0 p0.Rules s0
  have cx1 := cb1 p1.Left s1.1
  have cx2 := cb1 p1.Right s1.2
  obtain ⟨yx0, ex0, _⟩ := mark_RuleS p0.Rules (1) (Sml.med s0) (by omega) (by omega)
  obtain ⟨yx1, ex1, _⟩ := mark_Int64S p1.Left (1 + (Cnt.cnt p0.Rules : Int)) (Sml.med s1.1) (by omega) (by omega)
  obtain ⟨yx2, ex2, _⟩ := mark_Int64S p1.Right (1 + (Cnt.cnt p0.Rules : Int) + (Cnt.cnt p1.Left : Int)) (Sml.med s1.2) (by omega) (by omega)
  have nx : ¬ (1 + (Cnt.cnt p0.Rules : Int) + (Cnt.cnt p1.Left : Int) + (Cnt.cnt p1.Right : Int) < 0) := by omega
  obtain ⟨yg0, eg0, gg0⟩ := mark_Int64S w.1.Left (1) m0.1 (by omega) (by omega)
  have ng0 : ¬ (1 + (Cnt.cnt w.1.Left : Int) < 0) := by omega
  obtain ⟨yg1, eg1, gg1⟩ := mark_Int64S w.1.Right (1 + (Cnt.cnt w.1.Left : Int)) m0.2 (by omega) (by omega)
  have ng1 : ¬ (1 + (Cnt.cnt w.1.Left : Int) + (Cnt.cnt w.1.Right : Int) < 0) := by omega
  simp [hs, hi, Out.elim, ex0, ex1, ex2, nx, eg0, gg0, ng0, eg1, gg1, ng1, to_Machine p0 s0, eq_Machine p0 s0.med, to_Config p1 s1, eq_Config p1 s1.med, eq_Config w.1 m0, F_laws_heldConfig]

end Go.Fn
