/-
  Each exact law holds if the reference and the program give the same, small enough: printed by program. No condition.
-/
import Derived.Test.YtnpkepfmicgelaaDoorHelp
namespace Go.Fn
open Go Go.Tc
set_option linter.unusedVariables false
theorem cb0 (xs : (List Int)) (h : Sml xs) : Cnt.cnt xs ≤ 1048576 := cnt_le (n := 1048576) (m := 1) h.1 (fun _ _ => Nat.le_refl _)
theorem cb1 (xs : (List GDomino)) (h : Sml xs) : Cnt.cnt xs ≤ 2199023255552 := cnt_le (n := 1048576) (m := 2097152) h.1 (fun x hx => by
    have := cb0 x.Top (h.2 x hx).1
    have := cb0 x.Bottom (h.2 x hx).2
    show Cnt.cnt x.Top + Cnt.cnt x.Bottom ≤ 2097152
    omega)
theorem lawof_ReadDominoes (p0 : ByteArray) (w0 : Wf.wf p0) (h : Sml p0 → ∃ w : (List GDomino) × Bool, F_spec_ReadDominoes p0 = some w ∧ F_impl_ReadDominoes p0 = some w ∧ Med w.1 ∧ Cnt.cnt w.1 ≤ 1152921504606846976) : F_laws_FnExactReadDominoes p0 = some true := by
  unfold F_laws_FnExactReadDominoes
  by_cases g0 : (1048576 : Int) < (p0.size : Int)
  · rw [decide_eq_true g0]; rfl
  rw [decide_eq_false g0]
  simp only [cond_false]
  have s0 : Sml p0 := by show p0.size ≤ _; omega
  obtain ⟨w, hs, hi, m0, hc⟩ := h s0
  obtain ⟨yg0, eg0, gg0⟩ := mark_DominoS w.1 (1) m0 (by omega) (by omega)
  have ng0 : ¬ (1 + (Cnt.cnt w.1 : Int) < 0) := by omega
  simp [hs, hi, Out.elim, eg0, gg0, ng0, eq_DominoS w.1 m0]

end Go.Fn
