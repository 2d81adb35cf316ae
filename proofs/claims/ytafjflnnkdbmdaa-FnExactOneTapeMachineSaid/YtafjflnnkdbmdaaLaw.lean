/-
  Each exact law holds if the reference and the program give the same, small enough: printed by program. No condition.
-/
import Derived.Test.YtafjflnnkdbmdaaHelp
namespace Go.Fn
open Go Go.Tc
set_option linter.unusedVariables false
theorem cb0 (xs : (List Int)) (h : Sml xs) : Cnt.cnt xs ≤ 1048576 := cnt_le (n := 1048576) (m := 1) h.1 (fun _ _ => Nat.le_refl _)
theorem cb1 (xs : (List GMultiRule)) (h : Sml xs) : Cnt.cnt xs ≤ 3298536980480 := cnt_le (n := 1048576) (m := 3145730) h.1 (fun x hx => by
    have := cb0 x.Read (h.2 x hx).1
    have := cb0 x.Write (h.2 x hx).2.1
    have := cb0 x.Move (h.2 x hx).2.2
    show 1 + Cnt.cnt x.Read + Cnt.cnt x.Write + Cnt.cnt x.Move + 1 ≤ 3145730
    omega)
theorem lawof_OneTapeMachine (p0 : GMulti) (w0 : Wf.wf p0) (h : Sml p0 → ∃ w : GMachine × Int, F_spec_OneTapeMachine p0 = some w ∧ F_impl_OneTapeMachine p0 = some w ∧ Med w.1 ∧ Cnt.cnt w.1.Rules ≤ 1152921504606846976) : F_laws_FnExactOneTapeMachine p0 = some true := by
  unfold F_laws_FnExactOneTapeMachine
  obtain ⟨q0, hq0, k0⟩ := sz_Multi p0 w0 1048576 (by omega) (by omega)
  rw [hq0, bnd_some_eq]
  rcases k0 with k0 | ⟨a0, b0, s0⟩
  · rw [decide_eq_true k0]; rfl
  rw [decide_eq_false (by omega)]
  simp only [cond_false]
  obtain ⟨w, hs, hi, m0, hc⟩ := h s0
  have cx0 := cb1 p0.Rules s0
  obtain ⟨yx0, ex0, _⟩ := mark_MultiRuleS p0.Rules (1) (Sml.med s0) (by omega) (by omega)
  have nx : ¬ (1 + (Cnt.cnt p0.Rules : Int) < 0) := by omega
  obtain ⟨yg0, eg0, gg0⟩ := mark_RuleS w.1.Rules (1) m0 (by omega) (by omega)
  have ng0 : ¬ (1 + (Cnt.cnt w.1.Rules : Int) < 0) := by omega
  simp [hs, hi, Out.elim, ex0, nx, eg0, gg0, ng0, to_Multi p0 s0, eq_Multi p0 s0.med, eq_Machine w.1 m0, F_laws_heldMachine]

end Go.Fn
