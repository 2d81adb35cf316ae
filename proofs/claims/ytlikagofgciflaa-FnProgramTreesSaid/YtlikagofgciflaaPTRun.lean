/-
  Runs as tilings; the plain law of TilingOfRun. No program in sight. No condition.
-/
import Derived.Test.YtlikagofgciflaaPRow
namespace Go.Fn
open Go Go.Tc
end Go.Fn
