/-
  What the laws' helpers answer: comparisons of equal data, lengths, draws out of bytes. No program in sight. No condition.
-/
import Derived.Test.YtabpcmbohmodnaaPSrc
import Derived.Test.YtabpcmbohmodnaaPTRun
namespace Go.Fn
open Go Go.Tc
theorem r8_same (xs : List Int) (h : xs.length ≤ 1048576) : F_laws_r8Same xs xs = some true := by
  unfold F_laws_r8Same
  rw [decide_eq_false (by simp), cond_false, run_allp xs (by omega) (fun _ => true) (.ret false) (.brk (xs.length : Int)) (fun i hi => by
    simp only [F_laws_r8Same_L1, Int.ofNat_lt, hi, decide_true, cond_true, idx_nat hi, bnd_some_eq]
    rw [decide_eq_false (by simp), cond_false]) (by simp [F_laws_r8Same_L1])]
  have e : (xs.all fun _ => true) = true := by simp
  rw [e]
  rfl
theorem r8_config (c : GConfig) (h1 : c.Left.length ≤ 1048576) (h2 : c.Right.length ≤ 1048576) : F_laws_r8Config c c = some true := by
  unfold F_laws_r8Config
  rw [decide_eq_true rfl, cond_true, r8_same _ h1, bnd_some_eq, cond_true, r8_same _ h2, bnd_some_eq]
theorem r8_long (c d : List (Ik .u8)) : F_laws_r8Long c d = some (decide (1048576 < c.length) || decide (1048576 < d.length)) := by
  unfold F_laws_r8Long
  by_cases h : 1048576 < c.length
  · rw [decide_eq_true (by omega), cond_true, decide_eq_true h, Bool.true_or]
  · rw [decide_eq_false (by omega), cond_false, decide_eq_false h, Bool.false_or]
    congr 1
    rw [decide_eq_decide]
    omega
end Go.Fn
