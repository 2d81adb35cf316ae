/-
  The plain functions of ValidTiles agree. No condition.
-/
import Derived.Test.YtlikagofgciflaaHelp
namespace Go.Fn
open Go Go.Tc
end Go.Fn
