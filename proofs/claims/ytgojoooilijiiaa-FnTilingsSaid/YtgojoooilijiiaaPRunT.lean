/-
  The tilings of machines keep one head; the plain law of RunOfTiling. No program in sight. No condition.
-/
import Derived.Test.YtgojoooilijiiaaPConf
import Derived.Test.YtgojoooilijiiaaPTiling
namespace Go.Fn
open Go Go.Tc
def hc (S : Int) (xs : List Int) : Nat := xs.countP fun x => decide (S ≤ x)
def runC (m : GMachine) (tl : List (List Int)) : List GConfig := tl.map fun t => (confP m t).1
end Go.Fn
