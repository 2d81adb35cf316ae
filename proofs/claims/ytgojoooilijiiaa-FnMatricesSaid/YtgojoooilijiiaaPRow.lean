/-
  Configurations; the plain law of RowOfConfig. No program in sight. No condition.
-/
import Derived.Test.YtgojoooilijiiaaPConf
import Derived.Test.YtgojoooilijiiaaPPlain
namespace Go.Fn
open Go Go.Tc
def rowC (c : GConfig) (W A : Nat) : List Int := (List.range W).map fun i => if i < A then c.Left.getD (A - 1 - i) 0 else c.Right.getD (i - A) 0
end Go.Fn
