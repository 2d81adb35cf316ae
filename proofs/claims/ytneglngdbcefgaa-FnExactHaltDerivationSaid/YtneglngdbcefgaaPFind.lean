/-
  The search from one word, on both sides. No program in sight. No condition.
-/
import Derived.Test.YtneglngdbcefgaaPDerOf
namespace Go.Fn
open Go Go.Tc
end Go.Fn
