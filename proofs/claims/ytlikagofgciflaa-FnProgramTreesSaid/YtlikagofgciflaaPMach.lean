/-
  Machines; the plain law of TilesOfMachine. No program in sight. No condition.
-/
import Derived.Test.YtlikagofgciflaaPRun
import Derived.Test.YtlikagofgciflaaLaw
namespace Go.Tc
open Go
end Go.Tc
namespace Go.Fn
open Go Go.Tc
end Go.Fn
