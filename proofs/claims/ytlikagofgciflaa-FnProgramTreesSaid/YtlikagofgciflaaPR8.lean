/-
  What the laws' helpers answer: comparisons of equal data, lengths, draws out of bytes. No program in sight. No condition.
-/
import Derived.Test.YtlikagofgciflaaPSrc
import Derived.Test.YtlikagofgciflaaPTRun
namespace Go.Fn
open Go Go.Tc
theorem r8_long (c d : List (Ik .u8)) : F_laws_r8Long c d = some (decide (1048576 < c.length) || decide (1048576 < d.length)) := by
 unfold F_laws_r8Long
 by_cases h : 1048576 < c.length
 ·rw [decide_eq_true (by omega), cond_true, decide_eq_true h, Bool.true_or]
 ·rw [decide_eq_false (by omega), cond_false, decide_eq_false h, Bool.false_or]
  congr 1
  rw [decide_eq_decide]
  omega
end Go.Fn
