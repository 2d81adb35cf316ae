/-
  Each exact law holds if the reference and the program give the same, small enough: printed by program. No condition.
-/
import Derived.Test.YtnpkepfmicgelaaDoorHelp
namespace Go.Fn
open Go Go.Tc
set_option linter.unusedVariables false
theorem cb0 (xs : (List GTile)) (h : Sml xs) : Cnt.cnt xs ≤ 4194304 := cnt_le (n := 1048576) (m := 4) h.1 (fun x hx => by
    skip
    show 1 + 1 + 1 + 1 ≤ 4
    omega)
theorem lawof_TilesText (p0 : (List GTile)) (w0 : Wf.wf p0) (h : Sml p0 → ∃ w : ByteArray, F_spec_TilesText p0 = some w ∧ F_impl_TilesText p0 = some w) : F_laws_FnExactTilesText p0 = some true := by
  unfold F_laws_FnExactTilesText
  obtain ⟨q0, hq0, k0⟩ := sz_TileS p0 w0 1048576 (by omega) (by omega)
  rw [hq0, bnd_some_eq]
  rcases k0 with k0 | ⟨a0, b0, s0⟩
  · rw [decide_eq_true k0]; rfl
  rw [decide_eq_false (by omega)]
  simp only [cond_false]
  obtain ⟨w, hs, hi⟩ := h s0
  simp [hs, hi, Out.elim, to_TileS p0 s0, eq_TileS p0 s0.med]

end Go.Fn
