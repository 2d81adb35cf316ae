/-
  Configurations; the plain law of RowOfConfig. No program in sight. No condition.
-/
import Derived.Test.YtlikagofgciflaaPConf
import Derived.Test.YtlikagofgciflaaPPlain
namespace Go.Fn
open Go Go.Tc
end Go.Fn
