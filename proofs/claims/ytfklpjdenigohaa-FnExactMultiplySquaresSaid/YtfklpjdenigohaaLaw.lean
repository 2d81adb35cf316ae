/-
  Each exact law holds if the reference and the program give the same, small enough: printed by program. No condition.
-/
import Derived.Test.YtfklpjdenigohaaHelp
namespace Go.Fn
open Go Go.Tc
set_option linter.unusedVariables false
theorem cb0 (xs : (List Int)) (h : Sml xs) : Cnt.cnt xs ≤ 1048576 := cnt_le (n := 1048576) (m := 1) h.1 (fun _ _ => Nat.le_refl _)
theorem cb1 (xs : (List (List Int))) (h : Sml xs) : Cnt.cnt xs ≤ 1099511627776 := cnt_le (n := 1048576) (m := 1048576) h.1 (fun x hx => cb0 x (h.2 x hx))
theorem cb2 (xs : (List GRule)) (h : Sml xs) : Cnt.cnt xs ≤ 3145728 := cnt_le (n := 1048576) (m := 3) h.1 (fun x hx => by
    skip
    show 1 + 1 + 1 ≤ 3
    omega)
theorem cb3 (xs : (List GRewrite)) (h : Sml xs) : Cnt.cnt xs ≤ 2199023255552 := cnt_le (n := 1048576) (m := 2097152) h.1 (fun x hx => by
    have := cb0 x.From (h.2 x hx).1
    have := cb0 x.To (h.2 x hx).2
    show Cnt.cnt x.From + Cnt.cnt x.To ≤ 2097152
    omega)
theorem cb4 (xs : (List GDomino)) (h : Sml xs) : Cnt.cnt xs ≤ 2199023255552 := cnt_le (n := 1048576) (m := 2097152) h.1 (fun x hx => by
    have := cb0 x.Top (h.2 x hx).1
    have := cb0 x.Bottom (h.2 x hx).2
    show Cnt.cnt x.Top + Cnt.cnt x.Bottom ≤ 2097152
    omega)
theorem cb5 (xs : (List GConfig)) (h : Sml xs) : Cnt.cnt xs ≤ 2199024304128 := cnt_le (n := 1048576) (m := 2097153) h.1 (fun x hx => by
    have := cb0 x.Left (h.2 x hx).1
    have := cb0 x.Right (h.2 x hx).2
    show 1 + Cnt.cnt x.Left + Cnt.cnt x.Right ≤ 2097153
    omega)
theorem lawof_MultiplySquares (p0 : (List (List Int))) (p1 : (List (List Int))) (w0 : Wf.wf p0) (w1 : Wf.wf p1) (h : Sml p0 → Sml p1 → ∃ w : (List (List Int)) × Int, F_spec_MultiplySquares p0 p1 = some w ∧ F_impl_MultiplySquares p0 p1 = some w ∧ Med w.1 ∧ Cnt.cnt w.1 ≤ 1152921504606846976) : F_laws_FnExactMultiplySquares p0 p1 = some true := by
  unfold F_laws_FnExactMultiplySquares
  obtain ⟨q0, hq0, k0⟩ := sz_Int64SS p0 w0 1048576 (by omega) (by omega)
  rw [hq0, bnd_some_eq]
  rcases k0 with k0 | ⟨a0, b0, s0⟩
  · rw [decide_eq_true k0]; rfl
  rw [decide_eq_false (by omega)]
  simp only [cond_false]
  obtain ⟨q1, hq1, k1⟩ := sz_Int64SS p1 w1 q0 (by omega) (by omega)
  rw [hq1, bnd_some_eq]
  rcases k1 with k1 | ⟨a1, b1, s1⟩
  · rw [decide_eq_true k1]; rfl
  rw [decide_eq_false (by omega)]
  simp only [cond_false]
  obtain ⟨w, hs, hi, m0, hc⟩ := h s0 s1
  have cx0 := cb1 p0 s0
  have cx1 := cb1 p1 s1
  obtain ⟨yx0, ex0, _⟩ := mark_Int64SS p0 (1) (Sml.med s0) (by omega) (by omega)
  obtain ⟨yx1, ex1, _⟩ := mark_Int64SS p1 (1 + (Cnt.cnt p0 : Int)) (Sml.med s1) (by omega) (by omega)
  have nx : ¬ (1 + (Cnt.cnt p0 : Int) + (Cnt.cnt p1 : Int) < 0) := by omega
  obtain ⟨yg0, eg0, gg0⟩ := mark_Int64SS w.1 (1) m0 (by omega) (by omega)
  have ng0 : ¬ (1 + (Cnt.cnt w.1 : Int) < 0) := by omega
  simp [hs, hi, Out.elim, ex0, ex1, nx, eg0, gg0, ng0, to_Int64SS p0 s0, eq_Int64SS p0 s0.med, to_Int64SS p1 s1, eq_Int64SS p1 s1.med, eq_Int64SS w.1 m0]
theorem lawof_ConfigOfRow (p0 : GMachine) (p1 : (List Int)) (w0 : Wf.wf p0) (w1 : Wf.wf p1) (h : Sml p0 → Sml p1 → ∃ w : GConfig × Int × Int, F_spec_ConfigOfRow p0 p1 = some w ∧ F_impl_ConfigOfRow p0 p1 = some w ∧ Med w.1 ∧ Cnt.cnt w.1.Left + Cnt.cnt w.1.Right ≤ 1152921504606846976) : F_laws_FnExactConfigOfRow p0 p1 = some true := by
  unfold F_laws_FnExactConfigOfRow
  by_cases g1 : (1048576 : Int) < (p1.length : Int)
  · rw [decide_eq_true g1]; rfl
  rw [decide_eq_false g1]
  simp only [cond_false]
  have s1 : Sml p1 := ⟨by omega, fun _ _ => trivial⟩
  obtain ⟨q0, hq0, k0⟩ := sz_Machine p0 w0 1048576 (by omega) (by omega)
  rw [hq0, bnd_some_eq]
  rcases k0 with k0 | ⟨a0, b0, s0⟩
  · rw [decide_eq_true k0]; rfl
  rw [decide_eq_false (by omega)]
  simp only [cond_false]
  obtain ⟨w, hs, hi, m0, hc⟩ := h s0 s1
  have cx0 := cb2 p0.Rules s0
  have cx1 := cb0 p1 s1
  obtain ⟨yx0, ex0, _⟩ := mark_RuleS p0.Rules (1) (Sml.med s0) (by omega) (by omega)
  obtain ⟨yx1, ex1, _⟩ := mark_Int64S p1 (1 + (Cnt.cnt p0.Rules : Int)) (Sml.med s1) (by omega) (by omega)
  have nx : ¬ (1 + (Cnt.cnt p0.Rules : Int) + (Cnt.cnt p1 : Int) < 0) := by omega
  obtain ⟨yg0, eg0, gg0⟩ := mark_Int64S w.1.Left (1) m0.1 (by omega) (by omega)
  have ng0 : ¬ (1 + (Cnt.cnt w.1.Left : Int) < 0) := by omega
  obtain ⟨yg1, eg1, gg1⟩ := mark_Int64S w.1.Right (1 + (Cnt.cnt w.1.Left : Int)) m0.2 (by omega) (by omega)
  have ng1 : ¬ (1 + (Cnt.cnt w.1.Left : Int) + (Cnt.cnt w.1.Right : Int) < 0) := by omega
  simp [hs, hi, Out.elim, ex0, ex1, nx, eg0, gg0, ng0, eg1, gg1, ng1, to_Machine p0 s0, eq_Machine p0 s0.med, to_Int64S p1 s1, eq_Int64S p1 s1.med, eq_Config w.1 m0, F_laws_heldConfig]
theorem lawof_RewritesToDominoes (p0 : (List GRewrite)) (p1 : (List Int)) (p2 : (List Int)) (w0 : Wf.wf p0) (w1 : Wf.wf p1) (w2 : Wf.wf p2) (h : Sml p0 → Sml p1 → Sml p2 → ∃ w : (List GDomino) × Int, F_spec_RewritesToDominoes p0 p1 p2 = some w ∧ F_impl_RewritesToDominoes p0 p1 p2 = some w ∧ Med w.1 ∧ Cnt.cnt w.1 ≤ 1152921504606846976) : F_laws_FnExactRewritesToDominoes p0 p1 p2 = some true := by
  unfold F_laws_FnExactRewritesToDominoes
  by_cases g1 : (1048576 : Int) < (p1.length : Int)
  · rw [decide_eq_true g1]; rfl
  rw [decide_eq_false g1]
  simp only [cond_false]
  have s1 : Sml p1 := ⟨by omega, fun _ _ => trivial⟩
  by_cases g2 : (1048576 : Int) < (p2.length : Int)
  · rw [decide_eq_true g2]; rfl
  rw [decide_eq_false g2]
  simp only [cond_false]
  have s2 : Sml p2 := ⟨by omega, fun _ _ => trivial⟩
  obtain ⟨q0, hq0, k0⟩ := sz_RewriteS p0 w0 1048576 (by omega) (by omega)
  rw [hq0, bnd_some_eq]
  rcases k0 with k0 | ⟨a0, b0, s0⟩
  · rw [decide_eq_true k0]; rfl
  rw [decide_eq_false (by omega)]
  simp only [cond_false]
  obtain ⟨w, hs, hi, m0, hc⟩ := h s0 s1 s2
  have cx0 := cb3 p0 s0
  have cx1 := cb0 p1 s1
  have cx2 := cb0 p2 s2
  obtain ⟨yx0, ex0, _⟩ := mark_RewriteS p0 (1) (Sml.med s0) (by omega) (by omega)
  obtain ⟨yx1, ex1, _⟩ := mark_Int64S p1 (1 + (Cnt.cnt p0 : Int)) (Sml.med s1) (by omega) (by omega)
  obtain ⟨yx2, ex2, _⟩ := mark_Int64S p2 (1 + (Cnt.cnt p0 : Int) + (Cnt.cnt p1 : Int)) (Sml.med s2) (by omega) (by omega)
  have nx : ¬ (1 + (Cnt.cnt p0 : Int) + (Cnt.cnt p1 : Int) + (Cnt.cnt p2 : Int) < 0) := by omega
  obtain ⟨yg0, eg0, gg0⟩ := mark_DominoS w.1 (1) m0 (by omega) (by omega)
  have ng0 : ¬ (1 + (Cnt.cnt w.1 : Int) < 0) := by omega
  simp [hs, hi, Out.elim, ex0, ex1, ex2, nx, eg0, gg0, ng0, to_RewriteS p0 s0, eq_RewriteS p0 s0.med, to_Int64S p1 s1, eq_Int64S p1 s1.med, to_Int64S p2 s2, eq_Int64S p2 s2.med, eq_DominoS w.1 m0]
theorem lawof_HaltWords (p0 : GMachine) (p1 : GConfig) (w0 : Wf.wf p0) (w1 : Wf.wf p1) (h : Sml p0 → Sml p1 → ∃ w : (List Int) × (List Int) × Int, F_spec_HaltWords p0 p1 = some w ∧ F_impl_HaltWords p0 p1 = some w ∧ Med w.1 ∧ Med w.2.1 ∧ Cnt.cnt w.1 + Cnt.cnt w.2.1 ≤ 1152921504606846976) : F_laws_FnExactHaltWords p0 p1 = some true := by
  unfold F_laws_FnExactHaltWords
  obtain ⟨q0, hq0, k0⟩ := sz_Machine p0 w0 1048576 (by omega) (by omega)
  rw [hq0, bnd_some_eq]
  rcases k0 with k0 | ⟨a0, b0, s0⟩
  · rw [decide_eq_true k0]; rfl
  rw [decide_eq_false (by omega)]
  simp only [cond_false]
  obtain ⟨q1, hq1, k1⟩ := sz_Config p1 w1 q0 (by omega) (by omega)
  rw [hq1, bnd_some_eq]
  rcases k1 with k1 | ⟨a1, b1, s1⟩
  · rw [decide_eq_true k1]; rfl
  rw [decide_eq_false (by omega)]
  simp only [cond_false]
  obtain ⟨w, hs, hi, m0, m1, hc⟩ := h s0 s1
  have cx0 := cb2 p0.Rules s0
  have cx1 := cb0 p1.Left s1.1
  have cx2 := cb0 p1.Right s1.2
  obtain ⟨yx0, ex0, _⟩ := mark_RuleS p0.Rules (1) (Sml.med s0) (by omega) (by omega)
  obtain ⟨yx1, ex1, _⟩ := mark_Int64S p1.Left (1 + (Cnt.cnt p0.Rules : Int)) (Sml.med s1.1) (by omega) (by omega)
  obtain ⟨yx2, ex2, _⟩ := mark_Int64S p1.Right (1 + (Cnt.cnt p0.Rules : Int) + (Cnt.cnt p1.Left : Int)) (Sml.med s1.2) (by omega) (by omega)
  have nx : ¬ (1 + (Cnt.cnt p0.Rules : Int) + (Cnt.cnt p1.Left : Int) + (Cnt.cnt p1.Right : Int) < 0) := by omega
  obtain ⟨yg0, eg0, gg0⟩ := mark_Int64S w.1 (1) m0 (by omega) (by omega)
  have ng0 : ¬ (1 + (Cnt.cnt w.1 : Int) < 0) := by omega
  obtain ⟨yg1, eg1, gg1⟩ := mark_Int64S w.2.1 (1 + (Cnt.cnt w.1 : Int)) m1 (by omega) (by omega)
  have ng1 : ¬ (1 + (Cnt.cnt w.1 : Int) + (Cnt.cnt w.2.1 : Int) < 0) := by omega
  simp [hs, hi, Out.elim, ex0, ex1, ex2, nx, eg0, gg0, ng0, eg1, gg1, ng1, to_Machine p0 s0, eq_Machine p0 s0.med, to_Config p1 s1, eq_Config p1 s1.med, eq_Int64S w.1 m0, eq_Int64S w.2.1 m1]
theorem lawof_HaltRewrites (p0 : GMachine) (w0 : Wf.wf p0) (h : Sml p0 → ∃ w : (List GRewrite) × Int, F_spec_HaltRewrites p0 = some w ∧ F_impl_HaltRewrites p0 = some w ∧ Med w.1 ∧ Cnt.cnt w.1 ≤ 1152921504606846976) : F_laws_FnExactHaltRewrites p0 = some true := by
  unfold F_laws_FnExactHaltRewrites
  obtain ⟨q0, hq0, k0⟩ := sz_Machine p0 w0 1048576 (by omega) (by omega)
  rw [hq0, bnd_some_eq]
  rcases k0 with k0 | ⟨a0, b0, s0⟩
  · rw [decide_eq_true k0]; rfl
  rw [decide_eq_false (by omega)]
  simp only [cond_false]
  obtain ⟨w, hs, hi, m0, hc⟩ := h s0
  have cx0 := cb2 p0.Rules s0
  obtain ⟨yx0, ex0, _⟩ := mark_RuleS p0.Rules (1) (Sml.med s0) (by omega) (by omega)
  have nx : ¬ (1 + (Cnt.cnt p0.Rules : Int) < 0) := by omega
  obtain ⟨yg0, eg0, gg0⟩ := mark_RewriteS w.1 (1) m0 (by omega) (by omega)
  have ng0 : ¬ (1 + (Cnt.cnt w.1 : Int) < 0) := by omega
  simp [hs, hi, Out.elim, ex0, nx, eg0, gg0, ng0, to_Machine p0 s0, eq_Machine p0 s0.med, eq_RewriteS w.1 m0]
theorem lawof_RowOfConfig (p0 : GMachine) (p1 : GConfig) (p2 : Int) (p3 : Int) (w0 : Wf.wf p0) (w1 : Wf.wf p1) (w2 : Wf.wf p2) (w3 : Wf.wf p3) (h : Sml p0 → Sml p1 → ∃ w : (List Int) × Int, F_spec_RowOfConfig p0 p1 p2 p3 = some w ∧ F_impl_RowOfConfig p0 p1 p2 p3 = some w ∧ Med w.1 ∧ Cnt.cnt w.1 ≤ 1152921504606846976) : F_laws_FnExactRowOfConfig p0 p1 p2 p3 = some true := by
  unfold F_laws_FnExactRowOfConfig
  obtain ⟨q0, hq0, k0⟩ := sz_Machine p0 w0 1048576 (by omega) (by omega)
  rw [hq0, bnd_some_eq]
  rcases k0 with k0 | ⟨a0, b0, s0⟩
  · rw [decide_eq_true k0]; rfl
  rw [decide_eq_false (by omega)]
  simp only [cond_false]
  obtain ⟨q1, hq1, k1⟩ := sz_Config p1 w1 q0 (by omega) (by omega)
  rw [hq1, bnd_some_eq]
  rcases k1 with k1 | ⟨a1, b1, s1⟩
  · rw [decide_eq_true k1]; rfl
  rw [decide_eq_false (by omega)]
  simp only [cond_false]
  obtain ⟨w, hs, hi, m0, hc⟩ := h s0 s1
  have cx0 := cb2 p0.Rules s0
  have cx1 := cb0 p1.Left s1.1
  have cx2 := cb0 p1.Right s1.2
  obtain ⟨yx0, ex0, _⟩ := mark_RuleS p0.Rules (1) (Sml.med s0) (by omega) (by omega)
  obtain ⟨yx1, ex1, _⟩ := mark_Int64S p1.Left (1 + (Cnt.cnt p0.Rules : Int)) (Sml.med s1.1) (by omega) (by omega)
  obtain ⟨yx2, ex2, _⟩ := mark_Int64S p1.Right (1 + (Cnt.cnt p0.Rules : Int) + (Cnt.cnt p1.Left : Int)) (Sml.med s1.2) (by omega) (by omega)
  have nx : ¬ (1 + (Cnt.cnt p0.Rules : Int) + (Cnt.cnt p1.Left : Int) + (Cnt.cnt p1.Right : Int) < 0) := by omega
  obtain ⟨yg0, eg0, gg0⟩ := mark_Int64S w.1 (1) m0 (by omega) (by omega)
  have ng0 : ¬ (1 + (Cnt.cnt w.1 : Int) < 0) := by omega
  simp [hs, hi, Out.elim, ex0, ex1, ex2, nx, eg0, gg0, ng0, to_Machine p0 s0, eq_Machine p0 s0.med, to_Config p1 s1, eq_Config p1 s1.med, eq_Int64S w.1 m0]
theorem lawof_ModifiedMatch (p0 : (List GDomino)) (p1 : (List Int)) (w0 : Wf.wf p0) (w1 : Wf.wf p1) (h : Sml p0 → Sml p1 → ∃ w : (List Int) × Int, F_spec_ModifiedMatch p0 p1 = some w ∧ F_impl_ModifiedMatch p0 p1 = some w ∧ Med w.1 ∧ Cnt.cnt w.1 ≤ 1152921504606846976) : F_laws_FnExactModifiedMatch p0 p1 = some true := by
  unfold F_laws_FnExactModifiedMatch
  by_cases g1 : (1048576 : Int) < (p1.length : Int)
  · rw [decide_eq_true g1]; rfl
  rw [decide_eq_false g1]
  simp only [cond_false]
  have s1 : Sml p1 := ⟨by omega, fun _ _ => trivial⟩
  obtain ⟨q0, hq0, k0⟩ := sz_DominoS p0 w0 1048576 (by omega) (by omega)
  rw [hq0, bnd_some_eq]
  rcases k0 with k0 | ⟨a0, b0, s0⟩
  · rw [decide_eq_true k0]; rfl
  rw [decide_eq_false (by omega)]
  simp only [cond_false]
  obtain ⟨w, hs, hi, m0, hc⟩ := h s0 s1
  have cx0 := cb4 p0 s0
  have cx1 := cb0 p1 s1
  obtain ⟨yx0, ex0, _⟩ := mark_DominoS p0 (1) (Sml.med s0) (by omega) (by omega)
  obtain ⟨yx1, ex1, _⟩ := mark_Int64S p1 (1 + (Cnt.cnt p0 : Int)) (Sml.med s1) (by omega) (by omega)
  have nx : ¬ (1 + (Cnt.cnt p0 : Int) + (Cnt.cnt p1 : Int) < 0) := by omega
  obtain ⟨yg0, eg0, gg0⟩ := mark_Int64S w.1 (1) m0 (by omega) (by omega)
  have ng0 : ¬ (1 + (Cnt.cnt w.1 : Int) < 0) := by omega
  simp [hs, hi, Out.elim, ex0, ex1, nx, eg0, gg0, ng0, to_DominoS p0 s0, eq_DominoS p0 s0.med, to_Int64S p1 s1, eq_Int64S p1 s1.med, eq_Int64S w.1 m0]
theorem lawof_PlainMatch (p0 : (List GDomino)) (p1 : (List Int)) (w0 : Wf.wf p0) (w1 : Wf.wf p1) (h : Sml p0 → Sml p1 → ∃ w : (List Int) × Int, F_spec_PlainMatch p0 p1 = some w ∧ F_impl_PlainMatch p0 p1 = some w ∧ Med w.1 ∧ Cnt.cnt w.1 ≤ 1152921504606846976) : F_laws_FnExactPlainMatch p0 p1 = some true := by
  unfold F_laws_FnExactPlainMatch
  by_cases g1 : (1048576 : Int) < (p1.length : Int)
  · rw [decide_eq_true g1]; rfl
  rw [decide_eq_false g1]
  simp only [cond_false]
  have s1 : Sml p1 := ⟨by omega, fun _ _ => trivial⟩
  obtain ⟨q0, hq0, k0⟩ := sz_DominoS p0 w0 1048576 (by omega) (by omega)
  rw [hq0, bnd_some_eq]
  rcases k0 with k0 | ⟨a0, b0, s0⟩
  · rw [decide_eq_true k0]; rfl
  rw [decide_eq_false (by omega)]
  simp only [cond_false]
  obtain ⟨w, hs, hi, m0, hc⟩ := h s0 s1
  have cx0 := cb4 p0 s0
  have cx1 := cb0 p1 s1
  obtain ⟨yx0, ex0, _⟩ := mark_DominoS p0 (1) (Sml.med s0) (by omega) (by omega)
  obtain ⟨yx1, ex1, _⟩ := mark_Int64S p1 (1 + (Cnt.cnt p0 : Int)) (Sml.med s1) (by omega) (by omega)
  have nx : ¬ (1 + (Cnt.cnt p0 : Int) + (Cnt.cnt p1 : Int) < 0) := by omega
  obtain ⟨yg0, eg0, gg0⟩ := mark_Int64S w.1 (1) m0 (by omega) (by omega)
  have ng0 : ¬ (1 + (Cnt.cnt w.1 : Int) < 0) := by omega
  simp [hs, hi, Out.elim, ex0, ex1, nx, eg0, gg0, ng0, to_DominoS p0 s0, eq_DominoS p0 s0.med, to_Int64S p1 s1, eq_Int64S p1 s1.med, eq_Int64S w.1 m0]
theorem lawof_DerivationOfMatch (p0 : (List GRewrite)) (p1 : (List Int)) (p2 : (List Int)) (p3 : (List Int)) (w0 : Wf.wf p0) (w1 : Wf.wf p1) (w2 : Wf.wf p2) (w3 : Wf.wf p3) (h : Sml p0 → Sml p1 → Sml p2 → Sml p3 → ∃ w : (List (List Int)) × Int, F_spec_DerivationOfMatch p0 p1 p2 p3 = some w ∧ F_impl_DerivationOfMatch p0 p1 p2 p3 = some w ∧ Med w.1 ∧ Cnt.cnt w.1 ≤ 1152921504606846976) : F_laws_FnExactDerivationOfMatch p0 p1 p2 p3 = some true := by
  unfold F_laws_FnExactDerivationOfMatch
  by_cases g1 : (1048576 : Int) < (p1.length : Int)
  · rw [decide_eq_true g1]; rfl
  rw [decide_eq_false g1]
  simp only [cond_false]
  have s1 : Sml p1 := ⟨by omega, fun _ _ => trivial⟩
  by_cases g2 : (1048576 : Int) < (p2.length : Int)
  · rw [decide_eq_true g2]; rfl
  rw [decide_eq_false g2]
  simp only [cond_false]
  have s2 : Sml p2 := ⟨by omega, fun _ _ => trivial⟩
  by_cases g3 : (1048576 : Int) < (p3.length : Int)
  · rw [decide_eq_true g3]; rfl
  rw [decide_eq_false g3]
  simp only [cond_false]
  have s3 : Sml p3 := ⟨by omega, fun _ _ => trivial⟩
  obtain ⟨q0, hq0, k0⟩ := sz_RewriteS p0 w0 1048576 (by omega) (by omega)
  rw [hq0, bnd_some_eq]
  rcases k0 with k0 | ⟨a0, b0, s0⟩
  · rw [decide_eq_true k0]; rfl
  rw [decide_eq_false (by omega)]
  simp only [cond_false]
  obtain ⟨w, hs, hi, m0, hc⟩ := h s0 s1 s2 s3
  have cx0 := cb3 p0 s0
  have cx1 := cb0 p1 s1
  have cx2 := cb0 p2 s2
  have cx3 := cb0 p3 s3
  obtain ⟨yx0, ex0, _⟩ := mark_RewriteS p0 (1) (Sml.med s0) (by omega) (by omega)
  obtain ⟨yx1, ex1, _⟩ := mark_Int64S p1 (1 + (Cnt.cnt p0 : Int)) (Sml.med s1) (by omega) (by omega)
  obtain ⟨yx2, ex2, _⟩ := mark_Int64S p2 (1 + (Cnt.cnt p0 : Int) + (Cnt.cnt p1 : Int)) (Sml.med s2) (by omega) (by omega)
  obtain ⟨yx3, ex3, _⟩ := mark_Int64S p3 (1 + (Cnt.cnt p0 : Int) + (Cnt.cnt p1 : Int) + (Cnt.cnt p2 : Int)) (Sml.med s3) (by omega) (by omega)
  have nx : ¬ (1 + (Cnt.cnt p0 : Int) + (Cnt.cnt p1 : Int) + (Cnt.cnt p2 : Int) + (Cnt.cnt p3 : Int) < 0) := by omega
  obtain ⟨yg0, eg0, gg0⟩ := mark_Int64SS w.1 (1) m0 (by omega) (by omega)
  have ng0 : ¬ (1 + (Cnt.cnt w.1 : Int) < 0) := by omega
  simp [hs, hi, Out.elim, ex0, ex1, ex2, ex3, nx, eg0, gg0, ng0, to_RewriteS p0 s0, eq_RewriteS p0 s0.med, to_Int64S p1 s1, eq_Int64S p1 s1.med, to_Int64S p2 s2, eq_Int64S p2 s2.med, to_Int64S p3 s3, eq_Int64S p3 s3.med, eq_Int64SS w.1 m0]
theorem lawof_MatchOfDerivation (p0 : (List GRewrite)) (p1 : (List Int)) (p2 : (List Int)) (p3 : (List (List Int))) (w0 : Wf.wf p0) (w1 : Wf.wf p1) (w2 : Wf.wf p2) (w3 : Wf.wf p3) (h : Sml p0 → Sml p1 → Sml p2 → Sml p3 → ∃ w : (List Int) × Int, F_spec_MatchOfDerivation p0 p1 p2 p3 = some w ∧ F_impl_MatchOfDerivation p0 p1 p2 p3 = some w ∧ Med w.1 ∧ Cnt.cnt w.1 ≤ 1152921504606846976) : F_laws_FnExactMatchOfDerivation p0 p1 p2 p3 = some true := by
  unfold F_laws_FnExactMatchOfDerivation
  by_cases g1 : (1048576 : Int) < (p1.length : Int)
  · rw [decide_eq_true g1]; rfl
  rw [decide_eq_false g1]
  simp only [cond_false]
  have s1 : Sml p1 := ⟨by omega, fun _ _ => trivial⟩
  by_cases g2 : (1048576 : Int) < (p2.length : Int)
  · rw [decide_eq_true g2]; rfl
  rw [decide_eq_false g2]
  simp only [cond_false]
  have s2 : Sml p2 := ⟨by omega, fun _ _ => trivial⟩
  obtain ⟨q0, hq0, k0⟩ := sz_RewriteS p0 w0 1048576 (by omega) (by omega)
  rw [hq0, bnd_some_eq]
  rcases k0 with k0 | ⟨a0, b0, s0⟩
  · rw [decide_eq_true k0]; rfl
  rw [decide_eq_false (by omega)]
  simp only [cond_false]
  obtain ⟨q3, hq3, k3⟩ := sz_Int64SS p3 w3 q0 (by omega) (by omega)
  rw [hq3, bnd_some_eq]
  rcases k3 with k3 | ⟨a3, b3, s3⟩
  · rw [decide_eq_true k3]; rfl
  rw [decide_eq_false (by omega)]
  simp only [cond_false]
  obtain ⟨w, hs, hi, m0, hc⟩ := h s0 s1 s2 s3
  have cx0 := cb3 p0 s0
  have cx1 := cb0 p1 s1
  have cx2 := cb0 p2 s2
  have cx3 := cb1 p3 s3
  obtain ⟨yx0, ex0, _⟩ := mark_RewriteS p0 (1) (Sml.med s0) (by omega) (by omega)
  obtain ⟨yx1, ex1, _⟩ := mark_Int64S p1 (1 + (Cnt.cnt p0 : Int)) (Sml.med s1) (by omega) (by omega)
  obtain ⟨yx2, ex2, _⟩ := mark_Int64S p2 (1 + (Cnt.cnt p0 : Int) + (Cnt.cnt p1 : Int)) (Sml.med s2) (by omega) (by omega)
  obtain ⟨yx3, ex3, _⟩ := mark_Int64SS p3 (1 + (Cnt.cnt p0 : Int) + (Cnt.cnt p1 : Int) + (Cnt.cnt p2 : Int)) (Sml.med s3) (by omega) (by omega)
  have nx : ¬ (1 + (Cnt.cnt p0 : Int) + (Cnt.cnt p1 : Int) + (Cnt.cnt p2 : Int) + (Cnt.cnt p3 : Int) < 0) := by omega
  obtain ⟨yg0, eg0, gg0⟩ := mark_Int64S w.1 (1) m0 (by omega) (by omega)
  have ng0 : ¬ (1 + (Cnt.cnt w.1 : Int) < 0) := by omega
  simp [hs, hi, Out.elim, ex0, ex1, ex2, ex3, nx, eg0, gg0, ng0, to_RewriteS p0 s0, eq_RewriteS p0 s0.med, to_Int64S p1 s1, eq_Int64S p1 s1.med, to_Int64S p2 s2, eq_Int64S p2 s2.med, to_Int64SS p3 s3, eq_Int64SS p3 s3.med, eq_Int64S w.1 m0]
theorem lawof_RunOfTiling (p0 : GMachine) (p1 : (List Int)) (p2 : (List (List Int))) (w0 : Wf.wf p0) (w1 : Wf.wf p1) (w2 : Wf.wf p2) (h : Sml p0 → Sml p1 → Sml p2 → ∃ w : (List GConfig) × Int, F_spec_RunOfTiling p0 p1 p2 = some w ∧ F_impl_RunOfTiling p0 p1 p2 = some w ∧ Med w.1 ∧ Cnt.cnt w.1 ≤ 1152921504606846976) : F_laws_FnExactRunOfTiling p0 p1 p2 = some true := by
  unfold F_laws_FnExactRunOfTiling
  by_cases g1 : (1048576 : Int) < (p1.length : Int)
  · rw [decide_eq_true g1]; rfl
  rw [decide_eq_false g1]
  simp only [cond_false]
  have s1 : Sml p1 := ⟨by omega, fun _ _ => trivial⟩
  obtain ⟨q0, hq0, k0⟩ := sz_Machine p0 w0 1048576 (by omega) (by omega)
  rw [hq0, bnd_some_eq]
  rcases k0 with k0 | ⟨a0, b0, s0⟩
  · rw [decide_eq_true k0]; rfl
  rw [decide_eq_false (by omega)]
  simp only [cond_false]
  obtain ⟨q2, hq2, k2⟩ := sz_Int64SS p2 w2 q0 (by omega) (by omega)
  rw [hq2, bnd_some_eq]
  rcases k2 with k2 | ⟨a2, b2, s2⟩
  · rw [decide_eq_true k2]; rfl
  rw [decide_eq_false (by omega)]
  simp only [cond_false]
  obtain ⟨w, hs, hi, m0, hc⟩ := h s0 s1 s2
  have cx0 := cb2 p0.Rules s0
  have cx1 := cb0 p1 s1
  have cx2 := cb1 p2 s2
  obtain ⟨yx0, ex0, _⟩ := mark_RuleS p0.Rules (1) (Sml.med s0) (by omega) (by omega)
  obtain ⟨yx1, ex1, _⟩ := mark_Int64S p1 (1 + (Cnt.cnt p0.Rules : Int)) (Sml.med s1) (by omega) (by omega)
  obtain ⟨yx2, ex2, _⟩ := mark_Int64SS p2 (1 + (Cnt.cnt p0.Rules : Int) + (Cnt.cnt p1 : Int)) (Sml.med s2) (by omega) (by omega)
  have nx : ¬ (1 + (Cnt.cnt p0.Rules : Int) + (Cnt.cnt p1 : Int) + (Cnt.cnt p2 : Int) < 0) := by omega
  obtain ⟨yg0, eg0, gg0⟩ := mark_ConfigS w.1 (1) m0 (by omega) (by omega)
  have ng0 : ¬ (1 + (Cnt.cnt w.1 : Int) < 0) := by omega
  simp [hs, hi, Out.elim, ex0, ex1, ex2, nx, eg0, gg0, ng0, to_Machine p0 s0, eq_Machine p0 s0.med, to_Int64S p1 s1, eq_Int64S p1 s1.med, to_Int64SS p2 s2, eq_Int64SS p2 s2.med, eq_ConfigS w.1 m0]
theorem lawof_StepsOfDerivation (p0 : GMachine) (p1 : GConfig) (p2 : (List (List Int))) (w0 : Wf.wf p0) (w1 : Wf.wf p1) (w2 : Wf.wf p2) (h : Sml p0 → Sml p1 → Sml p2 → ∃ w : Int × Int, F_spec_StepsOfDerivation p0 p1 p2 = some w ∧ F_impl_StepsOfDerivation p0 p1 p2 = some w) : F_laws_FnExactStepsOfDerivation p0 p1 p2 = some true := by
  unfold F_laws_FnExactStepsOfDerivation
  obtain ⟨q0, hq0, k0⟩ := sz_Machine p0 w0 1048576 (by omega) (by omega)
  rw [hq0, bnd_some_eq]
  rcases k0 with k0 | ⟨a0, b0, s0⟩
  · rw [decide_eq_true k0]; rfl
  rw [decide_eq_false (by omega)]
  simp only [cond_false]
  obtain ⟨q1, hq1, k1⟩ := sz_Config p1 w1 q0 (by omega) (by omega)
  rw [hq1, bnd_some_eq]
  rcases k1 with k1 | ⟨a1, b1, s1⟩
  · rw [decide_eq_true k1]; rfl
  rw [decide_eq_false (by omega)]
  simp only [cond_false]
  obtain ⟨q2, hq2, k2⟩ := sz_Int64SS p2 w2 q1 (by omega) (by omega)
  rw [hq2, bnd_some_eq]
  rcases k2 with k2 | ⟨a2, b2, s2⟩
  · rw [decide_eq_true k2]; rfl
  rw [decide_eq_false (by omega)]
  simp only [cond_false]
  obtain ⟨w, hs, hi⟩ := h s0 s1 s2
  simp [hs, hi, Out.elim, to_Machine p0 s0, eq_Machine p0 s0.med, to_Config p1 s1, eq_Config p1 s1.med, to_Int64SS p2 s2, eq_Int64SS p2 s2.med]

end Go.Fn
