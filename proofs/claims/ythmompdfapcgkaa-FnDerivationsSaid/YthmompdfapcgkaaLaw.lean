/-
  Each exact law holds if the reference and the program give the same, small enough: printed by program. No condition.
-/
import Derived.Test.YthmompdfapcgkaaHelp
namespace Go.Fn
open Go Go.Tc
set_option linter.unusedVariables false
theorem cb0 (xs : (List GTile)) (h : Sml xs) : Cnt.cnt xs ≤ 4194304 := cnt_le (n := 1048576) (m := 4) h.1 (fun x hx => by
    skip
    show 1 + 1 + 1 + 1 ≤ 4
    omega)
theorem cb1 (xs : (List Int)) (h : Sml xs) : Cnt.cnt xs ≤ 1048576 := cnt_le (n := 1048576) (m := 1) h.1 (fun _ _ => Nat.le_refl _)
theorem lawof_CountTilings (p0 : (List GTile)) (p1 : (List Int)) (p2 : Int) (p3 : Int) (w0 : Wf.wf p0) (w1 : Wf.wf p1) (w2 : Wf.wf p2) (w3 : Wf.wf p3) (h : Sml p0 → Sml p1 → ∃ w : Int × Int, F_spec_CountTilings p0 p1 p2 p3 = some w ∧ F_impl_CountTilings p0 p1 p2 p3 = some w) : F_laws_FnExactCountTilings p0 p1 p2 p3 = some true := by
  unfold F_laws_FnExactCountTilings
  by_cases g1 : (1048576 : Int) < (p1.length : Int)
  · rw [decide_eq_true g1]; rfl
  rw [decide_eq_false g1]
  simp only [cond_false]
  have s1 : Sml p1 := ⟨by omega, fun _ _ => trivial⟩
  obtain ⟨q0, hq0, k0⟩ := sz_TileS p0 w0 1048576 (by omega) (by omega)
  rw [hq0, bnd_some_eq]
  rcases k0 with k0 | ⟨a0, b0, s0⟩
  · rw [decide_eq_true k0]; rfl
  rw [decide_eq_false (by omega)]
  simp only [cond_false]
  obtain ⟨w, hs, hi⟩ := h s0 s1
  simp [hs, hi, Out.elim, to_TileS p0 s0, eq_TileS p0 s0.med, to_Int64S p1 s1, eq_Int64S p1 s1.med]

end Go.Fn
