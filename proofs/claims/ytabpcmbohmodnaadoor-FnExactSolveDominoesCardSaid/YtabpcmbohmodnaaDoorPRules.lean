/-
  Dominoes of rewriting rules: the plain law of RewritesToDominoes. No program in sight. No condition.
-/
import Derived.Test.YtabpcmbohmodnaaDoorPPlain
namespace Go.Fn
open Go Go.Tc
end Go.Fn
