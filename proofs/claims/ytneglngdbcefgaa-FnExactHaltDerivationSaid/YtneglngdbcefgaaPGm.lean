/-
  Structures that plain texts speak of, where the seat's program lacks them. No condition.
-/
import Derived.Test.YtneglngdbcefgaaTy
namespace Go.Fn
end Go.Fn
