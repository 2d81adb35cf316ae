/-
  What is known of a datum that came in. No condition.
-/
import Derived.Test.YtlikagofgciflaaTy
namespace Go.Fn
open Go Go.Tc
end Go.Fn
