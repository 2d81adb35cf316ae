/-
  The eight known machines: their texts are read. No program in sight. No condition.
  The twins T_* are the plain functions with a bound on their rounds, printed by a program of ours.
-/
import Derived.Test.YtgojoooilijiiaaPTRun
import Derived.Test.YtgojoooilijiiaaPSrc
import Derived.Test.YtgojoooilijiiaaPCnt
namespace Go.Fn
open Go Go.Tc
end Go.Fn
