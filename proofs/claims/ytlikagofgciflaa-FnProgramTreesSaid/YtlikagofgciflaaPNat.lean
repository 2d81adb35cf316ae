/-
  Naturals: what the plain functions on single naturals say. No condition.
-/
import Derived.Test.YtlikagofgciflaaPValidTiles
namespace Go.Fn
open Go Go.Tc
end Go.Fn
