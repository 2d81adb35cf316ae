/-
  ReachWords. No program in sight. No condition.
-/
import Derived.Test.YtneglngdbcefgaaPFind
namespace Go.Fn
open Go Go.Tc
end Go.Fn
