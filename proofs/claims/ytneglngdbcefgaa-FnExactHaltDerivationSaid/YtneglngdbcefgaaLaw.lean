/-
  Each exact law holds if the reference and the program give the same, small enough: printed by program. No condition.
-/
import Derived.Test.YtneglngdbcefgaaHelp
namespace Go.Fn
open Go Go.Tc
set_option linter.unusedVariables false
theorem cb0 (xs : (List GRule)) (h : Sml xs) : Cnt.cnt xs ≤ 3145728 := cnt_le (n := 1048576) (m := 3) h.1 (fun x hx => by
    skip
    show 1 + 1 + 1 ≤ 3
    omega)
theorem cb1 (xs : (List Int)) (h : Sml xs) : Cnt.cnt xs ≤ 1048576 := cnt_le (n := 1048576) (m := 1) h.1 (fun _ _ => Nat.le_refl _)
theorem cb2 (xs : (List (List Int))) (h : Sml xs) : Cnt.cnt xs ≤ 1099511627776 := cnt_le (n := 1048576) (m := 1048576) h.1 (fun x hx => cb1 x (h.2 x hx))
theorem lawof_HaltDerivation (p0 : GMachine) (p1 : GConfig) (p2 : Int) (w0 : Wf.wf p0) (w1 : Wf.wf p1) (w2 : Wf.wf p2) (h : Sml p0 → Sml p1 → ∃ w : (List (List Int)) × Int, F_spec_HaltDerivation p0 p1 p2 = some w ∧ F_impl_HaltDerivation p0 p1 p2 = some w ∧ Med w.1 ∧ Cnt.cnt w.1 ≤ 1152921504606846976) : F_laws_FnExactHaltDerivation p0 p1 p2 = some true := by
  unfold F_laws_FnExactHaltDerivation
  obtain ⟨q0, hq0, k0⟩ := sz_Machine p0 w0 1048576 (by omega) (by omega)
  rw [hq0, bnd_some_eq]
  rcases k0 with k0 | ⟨a0, b0, s0⟩
  · rw [decide_eq_true k0]; rfl
  rw [decide_eq_false (by omega)]
  simp only [cond_false]
  obtain ⟨q1, hq1, k1⟩ := sz_Config p1 w1 q0 (by omega) (by omega)
  rw [hq1, bnd_some_eq]
  rcases k1 with k1 | ⟨a1, b1, s1⟩
  · rw [decide_eq_true k1]; rfl
  rw [decide_eq_false (by omega)]
  simp only [cond_false]
  obtain ⟨w, hs, hi, m0, hc⟩ := h s0 s1
  have cx0 := cb0 p0.Rules s0
  have cx1 := cb1 p1.Left s1.1
  have cx2 := cb1 p1.Right s1.2
  obtain ⟨yx0, ex0, _⟩ := mark_RuleS p0.Rules (1) (Sml.med s0) (by omega) (by omega)
  obtain ⟨yx1, ex1, _⟩ := mark_Int64S p1.Left (1 + (Cnt.cnt p0.Rules : Int)) (Sml.med s1.1) (by omega) (by omega)
  obtain ⟨yx2, ex2, _⟩ := mark_Int64S p1.Right (1 + (Cnt.cnt p0.Rules : Int) + (Cnt.cnt p1.Left : Int)) (Sml.med s1.2) (by omega) (by omega)
  have nx : ¬ (1 + (Cnt.cnt p0.Rules : Int) + (Cnt.cnt p1.Left : Int) + (Cnt.cnt p1.Right : Int) < 0) := by omega
  obtain ⟨yg0, eg0, gg0⟩ := mark_Int64SS w.1 (1) m0 (by omega) (by omega)
  have ng0 : ¬ (1 + (Cnt.cnt w.1 : Int) < 0) := by omega
  simp [hs, hi, Out.elim, ex0, ex1, ex2, nx, eg0, gg0, ng0, to_Machine p0 s0, eq_Machine p0 s0.med, to_Config p1 s1, eq_Config p1 s1.med, eq_Int64SS w.1 m0]

end Go.Fn
