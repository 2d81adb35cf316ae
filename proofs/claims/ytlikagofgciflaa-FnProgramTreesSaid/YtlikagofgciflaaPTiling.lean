/-
  The plain functions of IsTiling agree. No condition.
-/
import Derived.Test.YtlikagofgciflaaPValidTiles
namespace Go.Fn
open Go Go.Tc
end Go.Fn
