/-
  Naturals in limbs: sums, products, trimmed rows. No program in sight. No condition.
-/
import Derived.Test.YtafjflnnkdbmdaaPConf
import Derived.Test.YtafjflnnkdbmdaaPMatch
namespace Go.Fn
open Go Go.Tc
def val : List Int → Int
  | [] => 0
  | d :: r => d + 1000000 * val r
end Go.Fn
