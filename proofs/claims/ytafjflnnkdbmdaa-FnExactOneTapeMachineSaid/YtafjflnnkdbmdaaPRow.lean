/-
  Configurations; the plain law of RowOfConfig. No program in sight. No condition.
-/
import Derived.Test.YtafjflnnkdbmdaaPConf
import Derived.Test.YtafjflnnkdbmdaaPPlain
namespace Go.Fn
open Go Go.Tc
end Go.Fn
