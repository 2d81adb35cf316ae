/-
  Machines turned round; the plain law of FnMirrored. No program in sight. No condition.
-/
import Derived.Test.YtgojoooilijiiaaPRnr
namespace Go.Fn
open Go Go.Tc
end Go.Fn
