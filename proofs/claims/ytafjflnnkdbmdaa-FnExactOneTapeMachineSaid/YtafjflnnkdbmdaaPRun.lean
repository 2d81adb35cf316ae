/-
  Loops over a row with a carried datum. No program in sight. No condition.
-/
import Derived.Test.YtafjflnnkdbmdaaPNat
namespace Go.Tc
open Go
end Go.Tc
