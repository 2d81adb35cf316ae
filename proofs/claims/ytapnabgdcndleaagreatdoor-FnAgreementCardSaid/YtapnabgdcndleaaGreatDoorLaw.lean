/-
  Each exact law holds if the reference and the program give the same, small enough: printed by program. No condition.
-/
import Derived.Test.YtapnabgdcndleaaGreatDoorHelp
namespace Go.Fn
open Go Go.Tc
set_option linter.unusedVariables false
end Go.Fn
