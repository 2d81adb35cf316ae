/-
  The readings of the form, as readings of plain data. No condition.
-/
import Derived.Test.YtapnabgdcndleaaGreatDoorProg
import Derived.Test.YtapnabgdcndleaaGreatDoorWf
import Derived.KernelRfl
namespace Go.Proofs.YtapnabgdcndleaaGreatDoor
open Go Go.Tc Go.Fn
set_option linter.unusedVariables false
theorem QJ:Tr Tryz.prog 5 (Ik .u8):=Qe Tryz.underlying5
theorem Qj:Tr Tryz.prog 22 (List (Ik .u8)):=Mo Tryz.underlying22 (by kernel_rfl) QJ
theorem PQ:Qv Tryz.prog 22 (List (Ik .u8)):=Kd Tryz.underlying22
end Go.Proofs.YtapnabgdcndleaaGreatDoor
