/-
  Machines; the plain law of TilesOfMachine. No program in sight. No condition.
-/
import Derived.Test.YtafjflnnkdbmdaaPRun
import Derived.Test.YtafjflnnkdbmdaaLaw
namespace Go.Tc
open Go
end Go.Tc
namespace Go.Fn
open Go Go.Tc
def noR : GRule := ⟨0, 0, -1⟩
end Go.Fn
