/-
  Each exact law holds if the reference and the program give the same, small enough: printed by program. No condition.
-/
import Derived.Test.YtnpkepfmicgelaaDoorHelp
namespace Go.Fn
open Go Go.Tc
set_option linter.unusedVariables false
theorem cb0 (xs : (List GTile)) (h : Sml xs) : Cnt.cnt xs ≤ 4194304 := cnt_le (n := 1048576) (m := 4) h.1 (fun x hx => by
    skip
    show 1 + 1 + 1 + 1 ≤ 4
    omega)
theorem lawof_ReadTiles (p0 : ByteArray) (w0 : Wf.wf p0) (h : Sml p0 → ∃ w : (List GTile) × Bool, F_spec_ReadTiles p0 = some w ∧ F_impl_ReadTiles p0 = some w ∧ Med w.1 ∧ Cnt.cnt w.1 ≤ 1152921504606846976) : F_laws_FnExactReadTiles p0 = some true := by
  unfold F_laws_FnExactReadTiles
  by_cases g0 : (1048576 : Int) < (p0.size : Int)
  · rw [decide_eq_true g0]; rfl
  rw [decide_eq_false g0]
  simp only [cond_false]
  have s0 : Sml p0 := by show p0.size ≤ _; omega
  obtain ⟨w, hs, hi, m0, hc⟩ := h s0
  obtain ⟨yg0, eg0, gg0⟩ := mark_TileS w.1 (1) m0 (by omega) (by omega)
  have ng0 : ¬ (1 + (Cnt.cnt w.1 : Int) < 0) := by omega
  simp [hs, hi, Out.elim, eg0, gg0, ng0, eq_TileS w.1 m0]

end Go.Fn
