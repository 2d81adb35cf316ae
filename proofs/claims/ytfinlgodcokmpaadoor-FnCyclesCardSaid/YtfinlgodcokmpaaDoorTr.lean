/-
  The readings of the form, as readings of plain data. No condition.
-/
import Derived.Test.YtfinlgodcokmpaaDoorProg
import Derived.Test.YtfinlgodcokmpaaDoorWf
import Derived.KernelRfl
namespace Go.Proofs.YtfinlgodcokmpaaDoor
open Go Go.Tc Go.Fn
set_option linter.unusedVariables false
theorem tr_5 : Tr Tryd.prog 5 (Ik .u8) := tr_ik Tryd.underlying5
theorem shp_5 : Shp Tryd.prog 5 (Ik .u8) := shp_ik Tryd.underlying5
theorem tr_22 : Tr Tryd.prog 22 (List (Ik .u8)) := tr_slice Tryd.underlying22 (by kernel_rfl) tr_5
theorem shp_22 : Shp Tryd.prog 22 (List (Ik .u8)) := shp_slice Tryd.underlying22

end Go.Proofs.YtfinlgodcokmpaaDoor
