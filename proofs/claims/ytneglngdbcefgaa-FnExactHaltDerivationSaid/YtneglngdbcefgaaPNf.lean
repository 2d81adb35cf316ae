/-
  NormalFormsOf. No program in sight. No condition.
-/
import Derived.Test.YtneglngdbcefgaaPRch
import Derived.Test.YtneglngdbcefgaaPMoD
namespace Go.Fn
open Go Go.Tc
end Go.Fn
