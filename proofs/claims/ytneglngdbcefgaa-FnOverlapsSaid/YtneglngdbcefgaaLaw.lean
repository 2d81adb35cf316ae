/-
  Each exact law holds if the reference and the program give the same, small enough: printed by program. No condition.
-/
import Derived.Test.YtneglngdbcefgaaHelp
namespace Go.Fn
open Go Go.Tc
set_option linter.unusedVariables false
theorem cb0 (xs : (List Int)) (h : Sml xs) : Cnt.cnt xs ≤ 1048576 := cnt_le (n := 1048576) (m := 1) h.1 (fun _ _ => Nat.le_refl _)
theorem cb1 (xs : (List GRewrite)) (h : Sml xs) : Cnt.cnt xs ≤ 2199023255552 := cnt_le (n := 1048576) (m := 2097152) h.1 (fun x hx => by
    have := cb0 x.From (h.2 x hx).1
    have := cb0 x.To (h.2 x hx).2
    show Cnt.cnt x.From + Cnt.cnt x.To ≤ 2097152
    omega)
theorem cb2 (xs : (List (List Int))) (h : Sml xs) : Cnt.cnt xs ≤ 1099511627776 := cnt_le (n := 1048576) (m := 1048576) h.1 (fun x hx => cb0 x (h.2 x hx))
theorem lawof_NormalFormsOf (p0 : (List GRewrite)) (p1 : (List Int)) (p2 : Int) (w0 : Wf.wf p0) (w1 : Wf.wf p1) (w2 : Wf.wf p2) (h : Sml p0 → Sml p1 → ∃ w : (List (List Int)) × Bool × Int, F_spec_NormalFormsOf p0 p1 p2 = some w ∧ F_impl_NormalFormsOf p0 p1 p2 = some w ∧ Med w.1 ∧ Cnt.cnt w.1 ≤ 1152921504606846976) : F_laws_FnExactNormalFormsOf p0 p1 p2 = some true := by
  unfold F_laws_FnExactNormalFormsOf
  by_cases g1 : (1048576 : Int) < (p1.length : Int)
  · rw [decide_eq_true g1]; rfl
  rw [decide_eq_false g1]
  simp only [cond_false]
  have s1 : Sml p1 := ⟨by omega, fun _ _ => trivial⟩
  obtain ⟨q0, hq0, k0⟩ := sz_RewriteS p0 w0 1048576 (by omega) (by omega)
  rw [hq0, bnd_some_eq]
  rcases k0 with k0 | ⟨a0, b0, s0⟩
  · rw [decide_eq_true k0]; rfl
  rw [decide_eq_false (by omega)]
  simp only [cond_false]
  obtain ⟨w, hs, hi, m0, hc⟩ := h s0 s1
  have cx0 := cb1 p0 s0
  have cx1 := cb0 p1 s1
  obtain ⟨yx0, ex0, _⟩ := mark_RewriteS p0 (1) (Sml.med s0) (by omega) (by omega)
  obtain ⟨yx1, ex1, _⟩ := mark_Int64S p1 (1 + (Cnt.cnt p0 : Int)) (Sml.med s1) (by omega) (by omega)
  have nx : ¬ (1 + (Cnt.cnt p0 : Int) + (Cnt.cnt p1 : Int) < 0) := by omega
  obtain ⟨yg0, eg0, gg0⟩ := mark_Int64SS w.1 (1) m0 (by omega) (by omega)
  have ng0 : ¬ (1 + (Cnt.cnt w.1 : Int) < 0) := by omega
  simp [hs, hi, Out.elim, ex0, ex1, nx, eg0, gg0, ng0, to_RewriteS p0 s0, eq_RewriteS p0 s0.med, to_Int64S p1 s1, eq_Int64S p1 s1.med, eq_Int64SS w.1 m0]

end Go.Fn
