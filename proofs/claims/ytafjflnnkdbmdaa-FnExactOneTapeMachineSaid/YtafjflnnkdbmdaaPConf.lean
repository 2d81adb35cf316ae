/-
  Rows turned round and trimmed; the plain law of ConfigOfRow. No program in sight. No condition.
-/
import Derived.Test.YtafjflnnkdbmdaaPMach
namespace Go.Fn
open Go Go.Tc
theorem spec_own' (xs : List Int) (h : xs.length ≤ 1048576) : F_spec_l00Own xs = some xs := by
  unfold F_spec_l00Own
  rw [app_ok (by simp; omega)]
  rfl
end Go.Fn
