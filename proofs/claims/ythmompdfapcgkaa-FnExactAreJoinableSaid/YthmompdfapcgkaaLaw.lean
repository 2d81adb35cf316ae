/-
  Each exact law holds if the reference and the program give the same, small enough: printed by program. No condition.
-/
import Derived.Test.YthmompdfapcgkaaHelp
namespace Go.Fn
open Go Go.Tc
set_option linter.unusedVariables false
theorem cb0 (xs : (List Int)) (h : Sml xs) : Cnt.cnt xs ≤ 1048576 := cnt_le (n := 1048576) (m := 1) h.1 (fun _ _ => Nat.le_refl _)
theorem cb1 (xs : (List GRewrite)) (h : Sml xs) : Cnt.cnt xs ≤ 2199023255552 := cnt_le (n := 1048576) (m := 2097152) h.1 (fun x hx => by
    have := cb0 x.From (h.2 x hx).1
    have := cb0 x.To (h.2 x hx).2
    show Cnt.cnt x.From + Cnt.cnt x.To ≤ 2097152
    omega)
theorem lawof_AreJoinable (p0 : (List GRewrite)) (p1 : (List Int)) (p2 : (List Int)) (p3 : Int) (w0 : Wf.wf p0) (w1 : Wf.wf p1) (w2 : Wf.wf p2) (w3 : Wf.wf p3) (h : Sml p0 → Sml p1 → Sml p2 → ∃ w : Bool × Int, F_spec_AreJoinable p0 p1 p2 p3 = some w ∧ F_impl_AreJoinable p0 p1 p2 p3 = some w) : F_laws_FnExactAreJoinable p0 p1 p2 p3 = some true := by
  unfold F_laws_FnExactAreJoinable
  by_cases g1 : (1048576 : Int) < (p1.length : Int)
  · rw [decide_eq_true g1]; rfl
  rw [decide_eq_false g1]
  simp only [cond_false]
  have s1 : Sml p1 := ⟨by omega, fun _ _ => trivial⟩
  by_cases g2 : (1048576 : Int) < (p2.length : Int)
  · rw [decide_eq_true g2]; rfl
  rw [decide_eq_false g2]
  simp only [cond_false]
  have s2 : Sml p2 := ⟨by omega, fun _ _ => trivial⟩
  obtain ⟨q0, hq0, k0⟩ := sz_RewriteS p0 w0 1048576 (by omega) (by omega)
  rw [hq0, bnd_some_eq]
  rcases k0 with k0 | ⟨a0, b0, s0⟩
  · rw [decide_eq_true k0]; rfl
  rw [decide_eq_false (by omega)]
  simp only [cond_false]
  obtain ⟨w, hs, hi⟩ := h s0 s1 s2
  simp [hs, hi, Out.elim, to_RewriteS p0 s0, eq_RewriteS p0 s0.med, to_Int64S p1 s1, eq_Int64S p1 s1.med, to_Int64S p2 s2, eq_Int64S p2 s2.med]

end Go.Fn
