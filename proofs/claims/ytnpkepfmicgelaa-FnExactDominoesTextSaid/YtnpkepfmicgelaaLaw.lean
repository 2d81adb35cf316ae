/-
  Each exact law holds if the reference and the program give the same, small enough: printed by program. No condition.
-/
import Derived.Test.YtnpkepfmicgelaaHelp
namespace Go.Fn
open Go Go.Tc
set_option linter.unusedVariables false
theorem cb0 (xs : (List Int)) (h : Sml xs) : Cnt.cnt xs ≤ 1048576 := cnt_le (n := 1048576) (m := 1) h.1 (fun _ _ => Nat.le_refl _)
theorem cb1 (xs : (List GDomino)) (h : Sml xs) : Cnt.cnt xs ≤ 2199023255552 := cnt_le (n := 1048576) (m := 2097152) h.1 (fun x hx => by
    have := cb0 x.Top (h.2 x hx).1
    have := cb0 x.Bottom (h.2 x hx).2
    show Cnt.cnt x.Top + Cnt.cnt x.Bottom ≤ 2097152
    omega)
theorem lawof_DominoesText (p0 : (List GDomino)) (w0 : Wf.wf p0) (h : Sml p0 → ∃ w : ByteArray, F_spec_DominoesText p0 = some w ∧ F_impl_DominoesText p0 = some w) : F_laws_FnExactDominoesText p0 = some true := by
  unfold F_laws_FnExactDominoesText
  obtain ⟨q0, hq0, k0⟩ := sz_DominoS p0 w0 1048576 (by omega) (by omega)
  rw [hq0, bnd_some_eq]
  rcases k0 with k0 | ⟨a0, b0, s0⟩
  · rw [decide_eq_true k0]; rfl
  rw [decide_eq_false (by omega)]
  simp only [cond_false]
  obtain ⟨w, hs, hi⟩ := h s0
  simp [hs, hi, Out.elim, to_DominoS p0 s0, eq_DominoS p0 s0.med]

end Go.Fn
