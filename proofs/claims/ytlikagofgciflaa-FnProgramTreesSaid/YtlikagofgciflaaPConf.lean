/-
  Rows turned round and trimmed; the plain law of ConfigOfRow. No program in sight. No condition.
-/
import Derived.Test.YtlikagofgciflaaPMach
namespace Go.Fn
open Go Go.Tc
end Go.Fn
