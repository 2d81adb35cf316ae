/-
  Each exact law holds if the reference and the program give the same, small enough: printed by program. No condition.
-/
import Derived.Test.YtomiabeodgcmcaaHelp
namespace Go.Fn
open Go Go.Tc
set_option linter.unusedVariables false
theorem cb0 (xs : (List Int)) (h : Sml xs) : Cnt.cnt xs ≤ 1048576 := cnt_le (n := 1048576) (m := 1) h.1 (fun _ _ => Nat.le_refl _)
theorem cb1 (xs : (List GMultiRule)) (h : Sml xs) : Cnt.cnt xs ≤ 3298536980480 := cnt_le (n := 1048576) (m := 3145730) h.1 (fun x hx => by
    have := cb0 x.Read (h.2 x hx).1
    have := cb0 x.Write (h.2 x hx).2.1
    have := cb0 x.Move (h.2 x hx).2.2
    show 1 + Cnt.cnt x.Read + Cnt.cnt x.Write + Cnt.cnt x.Move + 1 ≤ 3145730
    omega)
theorem cb2 (xs : (List GTape)) (h : Sml xs) : Cnt.cnt xs ≤ 2199023255552 := cnt_le (n := 1048576) (m := 2097152) h.1 (fun x hx => by
    have := cb0 x.Left (h.2 x hx).1
    have := cb0 x.Right (h.2 x hx).2
    show Cnt.cnt x.Left + Cnt.cnt x.Right ≤ 2097152
    omega)
theorem cb3 (xs : (List GMultiConfig)) (h : Sml xs) : Cnt.cnt xs ≤ 2305843009214742528 := cnt_le (n := 1048576) (m := 2199023255553) h.1 (fun x hx => by
    have := cb2 x.Tapes (h.2 x hx)
    show 1 + Cnt.cnt x.Tapes ≤ 2199023255553
    omega)
theorem lawof_StepMulti (p0 : GMulti) (p1 : GMultiConfig) (w0 : Wf.wf p0) (w1 : Wf.wf p1) (h : Sml p0 → Sml p1 → ∃ w : GMultiConfig × Int, F_spec_StepMulti p0 p1 = some w ∧ F_impl_StepMulti p0 p1 = some w ∧ Med w.1 ∧ Cnt.cnt w.1.Tapes ≤ 1152921504606846976) : F_laws_FnExactStepMulti p0 p1 = some true := by
  unfold F_laws_FnExactStepMulti
  obtain ⟨q0, hq0, k0⟩ := sz_Multi p0 w0 1048576 (by omega) (by omega)
  rw [hq0, bnd_some_eq]
  rcases k0 with k0 | ⟨a0, b0, s0⟩
  · rw [decide_eq_true k0]; rfl
  rw [decide_eq_false (by omega)]
  simp only [cond_false]
  obtain ⟨q1, hq1, k1⟩ := sz_MultiConfig p1 w1 q0 (by omega) (by omega)
  rw [hq1, bnd_some_eq]
  rcases k1 with k1 | ⟨a1, b1, s1⟩
  · rw [decide_eq_true k1]; rfl
  rw [decide_eq_false (by omega)]
  simp only [cond_false]
  obtain ⟨w, hs, hi, m0, hc⟩ := h s0 s1
  have cx0 := cb1 p0.Rules s0
  have cx1 := cb2 p1.Tapes s1
  obtain ⟨yx0, ex0, _⟩ := mark_MultiRuleS p0.Rules (1) (Sml.med s0) (by omega) (by omega)
  obtain ⟨yx1, ex1, _⟩ := mark_TapeS p1.Tapes (1 + (Cnt.cnt p0.Rules : Int)) (Sml.med s1) (by omega) (by omega)
  have nx : ¬ (1 + (Cnt.cnt p0.Rules : Int) + (Cnt.cnt p1.Tapes : Int) < 0) := by omega
  obtain ⟨yg0, eg0, gg0⟩ := mark_TapeS w.1.Tapes (1) m0 (by omega) (by omega)
  have ng0 : ¬ (1 + (Cnt.cnt w.1.Tapes : Int) < 0) := by omega
  simp [hs, hi, Out.elim, ex0, ex1, nx, eg0, gg0, ng0, to_Multi p0 s0, eq_Multi p0 s0.med, to_MultiConfig p1 s1, eq_MultiConfig p1 s1.med, eq_MultiConfig w.1 m0, F_laws_heldMultiConfig]
theorem lawof_RunMulti (p0 : GMulti) (p1 : GMultiConfig) (p2 : Int) (w0 : Wf.wf p0) (w1 : Wf.wf p1) (w2 : Wf.wf p2) (h : Sml p0 → Sml p1 → ∃ w : GMultiConfig × Int × Bool × Int, F_spec_RunMulti p0 p1 p2 = some w ∧ F_impl_RunMulti p0 p1 p2 = some w ∧ Med w.1 ∧ Cnt.cnt w.1.Tapes ≤ 1152921504606846976) : F_laws_FnExactRunMulti p0 p1 p2 = some true := by
  unfold F_laws_FnExactRunMulti
  obtain ⟨q0, hq0, k0⟩ := sz_Multi p0 w0 1048576 (by omega) (by omega)
  rw [hq0, bnd_some_eq]
  rcases k0 with k0 | ⟨a0, b0, s0⟩
  · rw [decide_eq_true k0]; rfl
  rw [decide_eq_false (by omega)]
  simp only [cond_false]
  obtain ⟨q1, hq1, k1⟩ := sz_MultiConfig p1 w1 q0 (by omega) (by omega)
  rw [hq1, bnd_some_eq]
  rcases k1 with k1 | ⟨a1, b1, s1⟩
  · rw [decide_eq_true k1]; rfl
  rw [decide_eq_false (by omega)]
  simp only [cond_false]
  obtain ⟨w, hs, hi, m0, hc⟩ := h s0 s1
  have cx0 := cb1 p0.Rules s0
  have cx1 := cb2 p1.Tapes s1
  obtain ⟨yx0, ex0, _⟩ := mark_MultiRuleS p0.Rules (1) (Sml.med s0) (by omega) (by omega)
  obtain ⟨yx1, ex1, _⟩ := mark_TapeS p1.Tapes (1 + (Cnt.cnt p0.Rules : Int)) (Sml.med s1) (by omega) (by omega)
  have nx : ¬ (1 + (Cnt.cnt p0.Rules : Int) + (Cnt.cnt p1.Tapes : Int) < 0) := by omega
  obtain ⟨yg0, eg0, gg0⟩ := mark_TapeS w.1.Tapes (1) m0 (by omega) (by omega)
  have ng0 : ¬ (1 + (Cnt.cnt w.1.Tapes : Int) < 0) := by omega
  simp [hs, hi, Out.elim, ex0, ex1, nx, eg0, gg0, ng0, to_Multi p0 s0, eq_Multi p0 s0.med, to_MultiConfig p1 s1, eq_MultiConfig p1 s1.med, eq_MultiConfig w.1 m0, F_laws_heldMultiConfig]
theorem lawof_TraceMulti (p0 : GMulti) (p1 : GMultiConfig) (p2 : Int) (w0 : Wf.wf p0) (w1 : Wf.wf p1) (w2 : Wf.wf p2) (h : Sml p0 → Sml p1 → ∃ w : (List GMultiConfig) × Int, F_spec_TraceMulti p0 p1 p2 = some w ∧ F_impl_TraceMulti p0 p1 p2 = some w ∧ Med w.1 ∧ Cnt.cnt w.1 ≤ 1152921504606846976) : F_laws_FnExactTraceMulti p0 p1 p2 = some true := by
  unfold F_laws_FnExactTraceMulti
  obtain ⟨q0, hq0, k0⟩ := sz_Multi p0 w0 1048576 (by omega) (by omega)
  rw [hq0, bnd_some_eq]
  rcases k0 with k0 | ⟨a0, b0, s0⟩
  · rw [decide_eq_true k0]; rfl
  rw [decide_eq_false (by omega)]
  simp only [cond_false]
  obtain ⟨q1, hq1, k1⟩ := sz_MultiConfig p1 w1 q0 (by omega) (by omega)
  rw [hq1, bnd_some_eq]
  rcases k1 with k1 | ⟨a1, b1, s1⟩
  · rw [decide_eq_true k1]; rfl
  rw [decide_eq_false (by omega)]
  simp only [cond_false]
  obtain ⟨w, hs, hi, m0, hc⟩ := h s0 s1
  have cx0 := cb1 p0.Rules s0
  have cx1 := cb2 p1.Tapes s1
  obtain ⟨yx0, ex0, _⟩ := mark_MultiRuleS p0.Rules (1) (Sml.med s0) (by omega) (by omega)
  obtain ⟨yx1, ex1, _⟩ := mark_TapeS p1.Tapes (1 + (Cnt.cnt p0.Rules : Int)) (Sml.med s1) (by omega) (by omega)
  have nx : ¬ (1 + (Cnt.cnt p0.Rules : Int) + (Cnt.cnt p1.Tapes : Int) < 0) := by omega
  obtain ⟨yg0, eg0, gg0⟩ := mark_MultiConfigS w.1 (1) m0 (by omega) (by omega)
  have ng0 : ¬ (1 + (Cnt.cnt w.1 : Int) < 0) := by omega
  simp [hs, hi, Out.elim, ex0, ex1, nx, eg0, gg0, ng0, to_Multi p0 s0, eq_Multi p0 s0.med, to_MultiConfig p1 s1, eq_MultiConfig p1 s1.med, eq_MultiConfigS w.1 m0]

end Go.Fn
