/-
  Each exact law holds if the reference and the program give the same, small enough: printed by program. No condition.
-/
import Derived.Test.YtcjokkoiakjajaaHelp
namespace Go.Fn
open Go Go.Tc
set_option linter.unusedVariables false
theorem cb0 (xs : (List Int)) (h : Sml xs) : Cnt.cnt xs ≤ 1048576 := cnt_le (n := 1048576) (m := 1) h.1 (fun _ _ => Nat.le_refl _)
theorem cb1 (xs : (List GMultiRule)) (h : Sml xs) : Cnt.cnt xs ≤ 3298536980480 := cnt_le (n := 1048576) (m := 3145730) h.1 (fun x hx => by
    have := cb0 x.Read (h.2 x hx).1
    have := cb0 x.Write (h.2 x hx).2.1
    have := cb0 x.Move (h.2 x hx).2.2
    show 1 + Cnt.cnt x.Read + Cnt.cnt x.Write + Cnt.cnt x.Move + 1 ≤ 3145730
    omega)
theorem cb2 (xs : (List GTape)) (h : Sml xs) : Cnt.cnt xs ≤ 2199023255552 := cnt_le (n := 1048576) (m := 2097152) h.1 (fun x hx => by
    have := cb0 x.Left (h.2 x hx).1
    have := cb0 x.Right (h.2 x hx).2
    show Cnt.cnt x.Left + Cnt.cnt x.Right ≤ 2097152
    omega)
theorem lawof_MultiRuleAt (p0 : GMulti) (p1 : GMultiConfig) (w0 : Wf.wf p0) (w1 : Wf.wf p1) (h : Sml p0 → Sml p1 → ∃ w : Int × Int, F_spec_MultiRuleAt p0 p1 = some w ∧ F_impl_MultiRuleAt p0 p1 = some w) : F_laws_FnExactMultiRuleAt p0 p1 = some true := by
  unfold F_laws_FnExactMultiRuleAt
  obtain ⟨q0, hq0, k0⟩ := sz_Multi p0 w0 1048576 (by omega) (by omega)
  rw [hq0, bnd_some_eq]
  rcases k0 with k0 | ⟨a0, b0, s0⟩
  · rw [decide_eq_true k0]; rfl
  rw [decide_eq_false (by omega)]
  simp only [cond_false]
  obtain ⟨q1, hq1, k1⟩ := sz_MultiConfig p1 w1 q0 (by omega) (by omega)
  rw [hq1, bnd_some_eq]
  rcases k1 with k1 | ⟨a1, b1, s1⟩
  · rw [decide_eq_true k1]; rfl
  rw [decide_eq_false (by omega)]
  simp only [cond_false]
  obtain ⟨w, hs, hi⟩ := h s0 s1
  simp [hs, hi, Out.elim, to_Multi p0 s0, eq_Multi p0 s0.med, to_MultiConfig p1 s1, eq_MultiConfig p1 s1.med]

end Go.Fn
