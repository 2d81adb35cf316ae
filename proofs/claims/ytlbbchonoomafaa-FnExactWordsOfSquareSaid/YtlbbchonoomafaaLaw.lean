/-
  Each exact law holds if the reference and the program give the same, small enough: printed by program. No condition.
-/
import Derived.Test.YtlbbchonoomafaaHelp
namespace Go.Fn
open Go Go.Tc
set_option linter.unusedVariables false
theorem cb0 (xs : (List Int)) (h : Sml xs) : Cnt.cnt xs ≤ 1048576 := cnt_le (n := 1048576) (m := 1) h.1 (fun _ _ => Nat.le_refl _)
theorem cb1 (xs : (List (List Int))) (h : Sml xs) : Cnt.cnt xs ≤ 1099511627776 := cnt_le (n := 1048576) (m := 1048576) h.1 (fun x hx => cb0 x (h.2 x hx))
theorem cb2 (xs : (List GRule)) (h : Sml xs) : Cnt.cnt xs ≤ 3145728 := cnt_le (n := 1048576) (m := 3) h.1 (fun x hx => by
    skip
    show 1 + 1 + 1 ≤ 3
    omega)
theorem cb3 (xs : (List GConfig)) (h : Sml xs) : Cnt.cnt xs ≤ 2199024304128 := cnt_le (n := 1048576) (m := 2097153) h.1 (fun x hx => by
    have := cb0 x.Left (h.2 x hx).1
    have := cb0 x.Right (h.2 x hx).2
    show 1 + Cnt.cnt x.Left + Cnt.cnt x.Right ≤ 2097153
    omega)
theorem lawof_WordsOfSquare (p0 : (List (List Int))) (w0 : Wf.wf p0) (h : Sml p0 → ∃ w : (List Int) × (List Int) × Int, F_spec_WordsOfSquare p0 = some w ∧ F_impl_WordsOfSquare p0 = some w ∧ Med w.1 ∧ Med w.2.1 ∧ Cnt.cnt w.1 + Cnt.cnt w.2.1 ≤ 1152921504606846976) : F_laws_FnExactWordsOfSquare p0 = some true := by
  unfold F_laws_FnExactWordsOfSquare
  obtain ⟨q0, hq0, k0⟩ := sz_Int64SS p0 w0 1048576 (by omega) (by omega)
  rw [hq0, bnd_some_eq]
  rcases k0 with k0 | ⟨a0, b0, s0⟩
  · rw [decide_eq_true k0]; rfl
  rw [decide_eq_false (by omega)]
  simp only [cond_false]
  obtain ⟨w, hs, hi, m0, m1, hc⟩ := h s0
  have cx0 := cb1 p0 s0
  obtain ⟨yx0, ex0, _⟩ := mark_Int64SS p0 (1) (Sml.med s0) (by omega) (by omega)
  have nx : ¬ (1 + (Cnt.cnt p0 : Int) < 0) := by omega
  obtain ⟨yg0, eg0, gg0⟩ := mark_Int64S w.1 (1) m0 (by omega) (by omega)
  have ng0 : ¬ (1 + (Cnt.cnt w.1 : Int) < 0) := by omega
  obtain ⟨yg1, eg1, gg1⟩ := mark_Int64S w.2.1 (1 + (Cnt.cnt w.1 : Int)) m1 (by omega) (by omega)
  have ng1 : ¬ (1 + (Cnt.cnt w.1 : Int) + (Cnt.cnt w.2.1 : Int) < 0) := by omega
  simp [hs, hi, Out.elim, ex0, nx, eg0, gg0, ng0, eg1, gg1, ng1, to_Int64SS p0 s0, eq_Int64SS p0 s0.med, eq_Int64S w.1 m0, eq_Int64S w.2.1 m1]
theorem lawof_RunOfTiling (p0 : GMachine) (p1 : (List Int)) (p2 : (List (List Int))) (w0 : Wf.wf p0) (w1 : Wf.wf p1) (w2 : Wf.wf p2) (h : Sml p0 → Sml p1 → Sml p2 → ∃ w : (List GConfig) × Int, F_spec_RunOfTiling p0 p1 p2 = some w ∧ F_impl_RunOfTiling p0 p1 p2 = some w ∧ Med w.1 ∧ Cnt.cnt w.1 ≤ 1152921504606846976) : F_laws_FnExactRunOfTiling p0 p1 p2 = some true := by
  unfold F_laws_FnExactRunOfTiling
  by_cases g1 : (1048576 : Int) < (p1.length : Int)
  · rw [decide_eq_true g1]; rfl
  rw [decide_eq_false g1]
  simp only [cond_false]
  have s1 : Sml p1 := ⟨by omega, fun _ _ => trivial⟩
  obtain ⟨q0, hq0, k0⟩ := sz_Machine p0 w0 1048576 (by omega) (by omega)
  rw [hq0, bnd_some_eq]
  rcases k0 with k0 | ⟨a0, b0, s0⟩
  · rw [decide_eq_true k0]; rfl
  rw [decide_eq_false (by omega)]
  simp only [cond_false]
  obtain ⟨q2, hq2, k2⟩ := sz_Int64SS p2 w2 q0 (by omega) (by omega)
  rw [hq2, bnd_some_eq]
  rcases k2 with k2 | ⟨a2, b2, s2⟩
  · rw [decide_eq_true k2]; rfl
  rw [decide_eq_false (by omega)]
  simp only [cond_false]
  obtain ⟨w, hs, hi, m0, hc⟩ := h s0 s1 s2
  have cx0 := cb2 p0.Rules s0
  have cx1 := cb0 p1 s1
  have cx2 := cb1 p2 s2
  obtain ⟨yx0, ex0, _⟩ := mark_RuleS p0.Rules (1) (Sml.med s0) (by omega) (by omega)
  obtain ⟨yx1, ex1, _⟩ := mark_Int64S p1 (1 + (Cnt.cnt p0.Rules : Int)) (Sml.med s1) (by omega) (by omega)
  obtain ⟨yx2, ex2, _⟩ := mark_Int64SS p2 (1 + (Cnt.cnt p0.Rules : Int) + (Cnt.cnt p1 : Int)) (Sml.med s2) (by omega) (by omega)
  have nx : ¬ (1 + (Cnt.cnt p0.Rules : Int) + (Cnt.cnt p1 : Int) + (Cnt.cnt p2 : Int) < 0) := by omega
  obtain ⟨yg0, eg0, gg0⟩ := mark_ConfigS w.1 (1) m0 (by omega) (by omega)
  have ng0 : ¬ (1 + (Cnt.cnt w.1 : Int) < 0) := by omega
  simp [hs, hi, Out.elim, ex0, ex1, ex2, nx, eg0, gg0, ng0, to_Machine p0 s0, eq_Machine p0 s0.med, to_Int64S p1 s1, eq_Int64S p1 s1.med, to_Int64SS p2 s2, eq_Int64SS p2 s2.med, eq_ConfigS w.1 m0]

end Go.Fn
