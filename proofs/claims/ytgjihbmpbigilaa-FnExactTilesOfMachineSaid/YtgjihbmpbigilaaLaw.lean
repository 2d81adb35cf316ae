/-
  Each exact law holds if the reference and the program give the same, small enough: printed by program. No condition.
-/
import Derived.Test.YtgjihbmpbigilaaHelp
namespace Go.Fn
open Go Go.Tc
set_option linter.unusedVariables false
theorem cb0 (xs : (List GTile)) (h : Sml xs) : Cnt.cnt xs ≤ 4194304 := cnt_le (n := 1048576) (m := 4) h.1 (fun x hx => by
    skip
    show 1 + 1 + 1 + 1 ≤ 4
    omega)
theorem cb1 (xs : (List Int)) (h : Sml xs) : Cnt.cnt xs ≤ 1048576 := cnt_le (n := 1048576) (m := 1) h.1 (fun _ _ => Nat.le_refl _)
theorem cb2 (xs : (List (List Int))) (h : Sml xs) : Cnt.cnt xs ≤ 1099511627776 := cnt_le (n := 1048576) (m := 1048576) h.1 (fun x hx => cb1 x (h.2 x hx))
theorem cb3 (xs : (List GDomino)) (h : Sml xs) : Cnt.cnt xs ≤ 2199023255552 := cnt_le (n := 1048576) (m := 2097152) h.1 (fun x hx => by
    have := cb1 x.Top (h.2 x hx).1
    have := cb1 x.Bottom (h.2 x hx).2
    show Cnt.cnt x.Top + Cnt.cnt x.Bottom ≤ 2097152
    omega)
theorem cb4 (xs : (List GRule)) (h : Sml xs) : Cnt.cnt xs ≤ 3145728 := cnt_le (n := 1048576) (m := 3) h.1 (fun x hx => by
    skip
    show 1 + 1 + 1 ≤ 3
    omega)
theorem cb5 (xs : (List GRewrite)) (h : Sml xs) : Cnt.cnt xs ≤ 2199023255552 := cnt_le (n := 1048576) (m := 2097152) h.1 (fun x hx => by
    have := cb1 x.From (h.2 x hx).1
    have := cb1 x.To (h.2 x hx).2
    show Cnt.cnt x.From + Cnt.cnt x.To ≤ 2097152
    omega)
theorem lawof_ValidTiles (p0 : (List GTile)) (w0 : Wf.wf p0) (h : Sml p0 → ∃ w : Bool, F_spec_ValidTiles p0 = some w ∧ F_impl_ValidTiles p0 = some w) : F_laws_FnExactValidTiles p0 = some true := by
  unfold F_laws_FnExactValidTiles
  obtain ⟨q0, hq0, k0⟩ := sz_TileS p0 w0 1048576 (by omega) (by omega)
  rw [hq0, bnd_some_eq]
  rcases k0 with k0 | ⟨a0, b0, s0⟩
  · rw [decide_eq_true k0]; rfl
  rw [decide_eq_false (by omega)]
  simp only [cond_false]
  obtain ⟨w, hs, hi⟩ := h s0
  simp [hs, hi, Out.elim, to_TileS p0 s0, eq_TileS p0 s0.med]
theorem lawof_IsBalanced (p0 : (List (List Int))) (w0 : Wf.wf p0) (h : Sml p0 → ∃ w : Bool, F_spec_IsBalanced p0 = some w ∧ F_impl_IsBalanced p0 = some w) : F_laws_FnExactIsBalanced p0 = some true := by
  unfold F_laws_FnExactIsBalanced
  obtain ⟨q0, hq0, k0⟩ := sz_Int64SS p0 w0 1048576 (by omega) (by omega)
  rw [hq0, bnd_some_eq]
  rcases k0 with k0 | ⟨a0, b0, s0⟩
  · rw [decide_eq_true k0]; rfl
  rw [decide_eq_false (by omega)]
  simp only [cond_false]
  obtain ⟨w, hs, hi⟩ := h s0
  simp [hs, hi, Out.elim, to_Int64SS p0 s0, eq_Int64SS p0 s0.med]
theorem lawof_IsTiling (p0 : (List GTile)) (p1 : (List Int)) (p2 : (List (List Int))) (w0 : Wf.wf p0) (w1 : Wf.wf p1) (w2 : Wf.wf p2) (h : Sml p0 → Sml p1 → Sml p2 → ∃ w : Bool, F_spec_IsTiling p0 p1 p2 = some w ∧ F_impl_IsTiling p0 p1 p2 = some w) : F_laws_FnExactIsTiling p0 p1 p2 = some true := by
  unfold F_laws_FnExactIsTiling
  by_cases g1 : (1048576 : Int) < (p1.length : Int)
  · rw [decide_eq_true g1]; rfl
  rw [decide_eq_false g1]
  simp only [cond_false]
  have s1 : Sml p1 := ⟨by omega, fun _ _ => trivial⟩
  obtain ⟨q0, hq0, k0⟩ := sz_TileS p0 w0 1048576 (by omega) (by omega)
  rw [hq0, bnd_some_eq]
  rcases k0 with k0 | ⟨a0, b0, s0⟩
  · rw [decide_eq_true k0]; rfl
  rw [decide_eq_false (by omega)]
  simp only [cond_false]
  obtain ⟨q2, hq2, k2⟩ := sz_Int64SS p2 w2 q0 (by omega) (by omega)
  rw [hq2, bnd_some_eq]
  rcases k2 with k2 | ⟨a2, b2, s2⟩
  · rw [decide_eq_true k2]; rfl
  rw [decide_eq_false (by omega)]
  simp only [cond_false]
  obtain ⟨w, hs, hi⟩ := h s0 s1 s2
  simp [hs, hi, Out.elim, to_TileS p0 s0, eq_TileS p0 s0.med, to_Int64S p1 s1, eq_Int64S p1 s1.med, to_Int64SS p2 s2, eq_Int64SS p2 s2.med]
theorem lawof_MatchWord (p0 : (List GDomino)) (p1 : (List Int)) (w0 : Wf.wf p0) (w1 : Wf.wf p1) (h : Sml p0 → Sml p1 → ∃ w : (List Int) × Int, F_spec_MatchWord p0 p1 = some w ∧ F_impl_MatchWord p0 p1 = some w ∧ Med w.1 ∧ Cnt.cnt w.1 ≤ 1152921504606846976) : F_laws_FnExactMatchWord p0 p1 = some true := by
  unfold F_laws_FnExactMatchWord
  by_cases g1 : (1048576 : Int) < (p1.length : Int)
  · rw [decide_eq_true g1]; rfl
  rw [decide_eq_false g1]
  simp only [cond_false]
  have s1 : Sml p1 := ⟨by omega, fun _ _ => trivial⟩
  obtain ⟨q0, hq0, k0⟩ := sz_DominoS p0 w0 1048576 (by omega) (by omega)
  rw [hq0, bnd_some_eq]
  rcases k0 with k0 | ⟨a0, b0, s0⟩
  · rw [decide_eq_true k0]; rfl
  rw [decide_eq_false (by omega)]
  simp only [cond_false]
  obtain ⟨w, hs, hi, m0, hc⟩ := h s0 s1
  have cx0 := cb3 p0 s0
  have cx1 := cb1 p1 s1
  obtain ⟨yx0, ex0, _⟩ := mark_DominoS p0 (1) (Sml.med s0) (by omega) (by omega)
  obtain ⟨yx1, ex1, _⟩ := mark_Int64S p1 (1 + (Cnt.cnt p0 : Int)) (Sml.med s1) (by omega) (by omega)
  have nx : ¬ (1 + (Cnt.cnt p0 : Int) + (Cnt.cnt p1 : Int) < 0) := by omega
  obtain ⟨yg0, eg0, gg0⟩ := mark_Int64S w.1 (1) m0 (by omega) (by omega)
  have ng0 : ¬ (1 + (Cnt.cnt w.1 : Int) < 0) := by omega
  simp [hs, hi, Out.elim, ex0, ex1, nx, eg0, gg0, ng0, to_DominoS p0 s0, eq_DominoS p0 s0.med, to_Int64S p1 s1, eq_Int64S p1 s1.med, eq_Int64S w.1 m0]
theorem lawof_MultiplySquares (p0 : (List (List Int))) (p1 : (List (List Int))) (w0 : Wf.wf p0) (w1 : Wf.wf p1) (h : Sml p0 → Sml p1 → ∃ w : (List (List Int)) × Int, F_spec_MultiplySquares p0 p1 = some w ∧ F_impl_MultiplySquares p0 p1 = some w ∧ Med w.1 ∧ Cnt.cnt w.1 ≤ 1152921504606846976) : F_laws_FnExactMultiplySquares p0 p1 = some true := by
  unfold F_laws_FnExactMultiplySquares
  obtain ⟨q0, hq0, k0⟩ := sz_Int64SS p0 w0 1048576 (by omega) (by omega)
  rw [hq0, bnd_some_eq]
  rcases k0 with k0 | ⟨a0, b0, s0⟩
  · rw [decide_eq_true k0]; rfl
  rw [decide_eq_false (by omega)]
  simp only [cond_false]
  obtain ⟨q1, hq1, k1⟩ := sz_Int64SS p1 w1 q0 (by omega) (by omega)
  rw [hq1, bnd_some_eq]
  rcases k1 with k1 | ⟨a1, b1, s1⟩
  · rw [decide_eq_true k1]; rfl
  rw [decide_eq_false (by omega)]
  simp only [cond_false]
  obtain ⟨w, hs, hi, m0, hc⟩ := h s0 s1
  have cx0 := cb2 p0 s0
  have cx1 := cb2 p1 s1
  obtain ⟨yx0, ex0, _⟩ := mark_Int64SS p0 (1) (Sml.med s0) (by omega) (by omega)
  obtain ⟨yx1, ex1, _⟩ := mark_Int64SS p1 (1 + (Cnt.cnt p0 : Int)) (Sml.med s1) (by omega) (by omega)
  have nx : ¬ (1 + (Cnt.cnt p0 : Int) + (Cnt.cnt p1 : Int) < 0) := by omega
  obtain ⟨yg0, eg0, gg0⟩ := mark_Int64SS w.1 (1) m0 (by omega) (by omega)
  have ng0 : ¬ (1 + (Cnt.cnt w.1 : Int) < 0) := by omega
  simp [hs, hi, Out.elim, ex0, ex1, nx, eg0, gg0, ng0, to_Int64SS p0 s0, eq_Int64SS p0 s0.med, to_Int64SS p1 s1, eq_Int64SS p1 s1.med, eq_Int64SS w.1 m0]
theorem lawof_TopOf (p0 : (List GTile)) (p1 : (List Int)) (p2 : (List (List Int))) (w0 : Wf.wf p0) (w1 : Wf.wf p1) (w2 : Wf.wf p2) (h : Sml p0 → Sml p1 → Sml p2 → ∃ w : (List Int) × Int, F_spec_TopOf p0 p1 p2 = some w ∧ F_impl_TopOf p0 p1 p2 = some w ∧ Med w.1 ∧ Cnt.cnt w.1 ≤ 1152921504606846976) : F_laws_FnExactTopOf p0 p1 p2 = some true := by
  unfold F_laws_FnExactTopOf
  by_cases g1 : (1048576 : Int) < (p1.length : Int)
  · rw [decide_eq_true g1]; rfl
  rw [decide_eq_false g1]
  simp only [cond_false]
  have s1 : Sml p1 := ⟨by omega, fun _ _ => trivial⟩
  obtain ⟨q0, hq0, k0⟩ := sz_TileS p0 w0 1048576 (by omega) (by omega)
  rw [hq0, bnd_some_eq]
  rcases k0 with k0 | ⟨a0, b0, s0⟩
  · rw [decide_eq_true k0]; rfl
  rw [decide_eq_false (by omega)]
  simp only [cond_false]
  obtain ⟨q2, hq2, k2⟩ := sz_Int64SS p2 w2 q0 (by omega) (by omega)
  rw [hq2, bnd_some_eq]
  rcases k2 with k2 | ⟨a2, b2, s2⟩
  · rw [decide_eq_true k2]; rfl
  rw [decide_eq_false (by omega)]
  simp only [cond_false]
  obtain ⟨w, hs, hi, m0, hc⟩ := h s0 s1 s2
  have cx0 := cb0 p0 s0
  have cx1 := cb1 p1 s1
  have cx2 := cb2 p2 s2
  obtain ⟨yx0, ex0, _⟩ := mark_TileS p0 (1) (Sml.med s0) (by omega) (by omega)
  obtain ⟨yx1, ex1, _⟩ := mark_Int64S p1 (1 + (Cnt.cnt p0 : Int)) (Sml.med s1) (by omega) (by omega)
  obtain ⟨yx2, ex2, _⟩ := mark_Int64SS p2 (1 + (Cnt.cnt p0 : Int) + (Cnt.cnt p1 : Int)) (Sml.med s2) (by omega) (by omega)
  have nx : ¬ (1 + (Cnt.cnt p0 : Int) + (Cnt.cnt p1 : Int) + (Cnt.cnt p2 : Int) < 0) := by omega
  obtain ⟨yg0, eg0, gg0⟩ := mark_Int64S w.1 (1) m0 (by omega) (by omega)
  have ng0 : ¬ (1 + (Cnt.cnt w.1 : Int) < 0) := by omega
  simp [hs, hi, Out.elim, ex0, ex1, ex2, nx, eg0, gg0, ng0, to_TileS p0 s0, eq_TileS p0 s0.med, to_Int64S p1 s1, eq_Int64S p1 s1.med, to_Int64SS p2 s2, eq_Int64SS p2 s2.med, eq_Int64S w.1 m0]
theorem lawof_TilesOfMachine (p0 : GMachine) (w0 : Wf.wf p0) (h : Sml p0 → ∃ w : (List GTile) × Int, F_spec_TilesOfMachine p0 = some w ∧ F_impl_TilesOfMachine p0 = some w ∧ Med w.1 ∧ Cnt.cnt w.1 ≤ 1152921504606846976) : F_laws_FnExactTilesOfMachine p0 = some true := by
  unfold F_laws_FnExactTilesOfMachine
  obtain ⟨q0, hq0, k0⟩ := sz_Machine p0 w0 1048576 (by omega) (by omega)
  rw [hq0, bnd_some_eq]
  rcases k0 with k0 | ⟨a0, b0, s0⟩
  · rw [decide_eq_true k0]; rfl
  rw [decide_eq_false (by omega)]
  simp only [cond_false]
  obtain ⟨w, hs, hi, m0, hc⟩ := h s0
  have cx0 := cb4 p0.Rules s0
  obtain ⟨yx0, ex0, _⟩ := mark_RuleS p0.Rules (1) (Sml.med s0) (by omega) (by omega)
  have nx : ¬ (1 + (Cnt.cnt p0.Rules : Int) < 0) := by omega
  obtain ⟨yg0, eg0, gg0⟩ := mark_TileS w.1 (1) m0 (by omega) (by omega)
  have ng0 : ¬ (1 + (Cnt.cnt w.1 : Int) < 0) := by omega
  simp [hs, hi, Out.elim, ex0, nx, eg0, gg0, ng0, to_Machine p0 s0, eq_Machine p0 s0.med, eq_TileS w.1 m0]
theorem lawof_PlainDominoes (p0 : (List GDomino)) (w0 : Wf.wf p0) (h : Sml p0 → ∃ w : (List GDomino) × Int, F_spec_PlainDominoes p0 = some w ∧ F_impl_PlainDominoes p0 = some w ∧ Med w.1 ∧ Cnt.cnt w.1 ≤ 1152921504606846976) : F_laws_FnExactPlainDominoes p0 = some true := by
  unfold F_laws_FnExactPlainDominoes
  obtain ⟨q0, hq0, k0⟩ := sz_DominoS p0 w0 1048576 (by omega) (by omega)
  rw [hq0, bnd_some_eq]
  rcases k0 with k0 | ⟨a0, b0, s0⟩
  · rw [decide_eq_true k0]; rfl
  rw [decide_eq_false (by omega)]
  simp only [cond_false]
  obtain ⟨w, hs, hi, m0, hc⟩ := h s0
  have cx0 := cb3 p0 s0
  obtain ⟨yx0, ex0, _⟩ := mark_DominoS p0 (1) (Sml.med s0) (by omega) (by omega)
  have nx : ¬ (1 + (Cnt.cnt p0 : Int) < 0) := by omega
  obtain ⟨yg0, eg0, gg0⟩ := mark_DominoS w.1 (1) m0 (by omega) (by omega)
  have ng0 : ¬ (1 + (Cnt.cnt w.1 : Int) < 0) := by omega
  simp [hs, hi, Out.elim, ex0, nx, eg0, gg0, ng0, to_DominoS p0 s0, eq_DominoS p0 s0.med, eq_DominoS w.1 m0]
theorem lawof_ConfigOfRow (p0 : GMachine) (p1 : (List Int)) (w0 : Wf.wf p0) (w1 : Wf.wf p1) (h : Sml p0 → Sml p1 → ∃ w : GConfig × Int × Int, F_spec_ConfigOfRow p0 p1 = some w ∧ F_impl_ConfigOfRow p0 p1 = some w ∧ Med w.1 ∧ Cnt.cnt w.1.Left + Cnt.cnt w.1.Right ≤ 1152921504606846976) : F_laws_FnExactConfigOfRow p0 p1 = some true := by
  unfold F_laws_FnExactConfigOfRow
  by_cases g1 : (1048576 : Int) < (p1.length : Int)
  · rw [decide_eq_true g1]; rfl
  rw [decide_eq_false g1]
  simp only [cond_false]
  have s1 : Sml p1 := ⟨by omega, fun _ _ => trivial⟩
  obtain ⟨q0, hq0, k0⟩ := sz_Machine p0 w0 1048576 (by omega) (by omega)
  rw [hq0, bnd_some_eq]
  rcases k0 with k0 | ⟨a0, b0, s0⟩
  · rw [decide_eq_true k0]; rfl
  rw [decide_eq_false (by omega)]
  simp only [cond_false]
  obtain ⟨w, hs, hi, m0, hc⟩ := h s0 s1
  have cx0 := cb4 p0.Rules s0
  have cx1 := cb1 p1 s1
  obtain ⟨yx0, ex0, _⟩ := mark_RuleS p0.Rules (1) (Sml.med s0) (by omega) (by omega)
  obtain ⟨yx1, ex1, _⟩ := mark_Int64S p1 (1 + (Cnt.cnt p0.Rules : Int)) (Sml.med s1) (by omega) (by omega)
  have nx : ¬ (1 + (Cnt.cnt p0.Rules : Int) + (Cnt.cnt p1 : Int) < 0) := by omega
  obtain ⟨yg0, eg0, gg0⟩ := mark_Int64S w.1.Left (1) m0.1 (by omega) (by omega)
  have ng0 : ¬ (1 + (Cnt.cnt w.1.Left : Int) < 0) := by omega
  obtain ⟨yg1, eg1, gg1⟩ := mark_Int64S w.1.Right (1 + (Cnt.cnt w.1.Left : Int)) m0.2 (by omega) (by omega)
  have ng1 : ¬ (1 + (Cnt.cnt w.1.Left : Int) + (Cnt.cnt w.1.Right : Int) < 0) := by omega
  simp [hs, hi, Out.elim, ex0, ex1, nx, eg0, gg0, ng0, eg1, gg1, ng1, to_Machine p0 s0, eq_Machine p0 s0.med, to_Int64S p1 s1, eq_Int64S p1 s1.med, eq_Config w.1 m0, F_laws_heldConfig]
theorem lawof_RewritesToDominoes (p0 : (List GRewrite)) (p1 : (List Int)) (p2 : (List Int)) (w0 : Wf.wf p0) (w1 : Wf.wf p1) (w2 : Wf.wf p2) (h : Sml p0 → Sml p1 → Sml p2 → ∃ w : (List GDomino) × Int, F_spec_RewritesToDominoes p0 p1 p2 = some w ∧ F_impl_RewritesToDominoes p0 p1 p2 = some w ∧ Med w.1 ∧ Cnt.cnt w.1 ≤ 1152921504606846976) : F_laws_FnExactRewritesToDominoes p0 p1 p2 = some true := by
  unfold F_laws_FnExactRewritesToDominoes
  by_cases g1 : (1048576 : Int) < (p1.length : Int)
  · rw [decide_eq_true g1]; rfl
  rw [decide_eq_false g1]
  simp only [cond_false]
  have s1 : Sml p1 := ⟨by omega, fun _ _ => trivial⟩
  by_cases g2 : (1048576 : Int) < (p2.length : Int)
  · rw [decide_eq_true g2]; rfl
  rw [decide_eq_false g2]
  simp only [cond_false]
  have s2 : Sml p2 := ⟨by omega, fun _ _ => trivial⟩
  obtain ⟨q0, hq0, k0⟩ := sz_RewriteS p0 w0 1048576 (by omega) (by omega)
  rw [hq0, bnd_some_eq]
  rcases k0 with k0 | ⟨a0, b0, s0⟩
  · rw [decide_eq_true k0]; rfl
  rw [decide_eq_false (by omega)]
  simp only [cond_false]
  obtain ⟨w, hs, hi, m0, hc⟩ := h s0 s1 s2
  have cx0 := cb5 p0 s0
  have cx1 := cb1 p1 s1
  have cx2 := cb1 p2 s2
  obtain ⟨yx0, ex0, _⟩ := mark_RewriteS p0 (1) (Sml.med s0) (by omega) (by omega)
  obtain ⟨yx1, ex1, _⟩ := mark_Int64S p1 (1 + (Cnt.cnt p0 : Int)) (Sml.med s1) (by omega) (by omega)
  obtain ⟨yx2, ex2, _⟩ := mark_Int64S p2 (1 + (Cnt.cnt p0 : Int) + (Cnt.cnt p1 : Int)) (Sml.med s2) (by omega) (by omega)
  have nx : ¬ (1 + (Cnt.cnt p0 : Int) + (Cnt.cnt p1 : Int) + (Cnt.cnt p2 : Int) < 0) := by omega
  obtain ⟨yg0, eg0, gg0⟩ := mark_DominoS w.1 (1) m0 (by omega) (by omega)
  have ng0 : ¬ (1 + (Cnt.cnt w.1 : Int) < 0) := by omega
  simp [hs, hi, Out.elim, ex0, ex1, ex2, nx, eg0, gg0, ng0, to_RewriteS p0 s0, eq_RewriteS p0 s0.med, to_Int64S p1 s1, eq_Int64S p1 s1.med, to_Int64S p2 s2, eq_Int64S p2 s2.med, eq_DominoS w.1 m0]

end Go.Fn
