/-
  The readings of the form, as readings of plain data. No condition.
-/
import Derived.Test.YtlepdmenejbleaaGreatProg
import Derived.Test.YtlepdmenejbleaaGreatWf
import Derived.KernelRfl
namespace Go.Proofs.YtlepdmenejbleaaGreat
open Go Go.Tc Go.Fn
set_option linter.unusedVariables false
theorem tr_5 : Tr Tryz.prog 5 (Ik .u8) := tr_ik Tryz.underlying5
theorem shp_5 : Shp Tryz.prog 5 (Ik .u8) := shp_ik Tryz.underlying5
theorem tr_22 : Tr Tryz.prog 22 (List (Ik .u8)) := tr_slice Tryz.underlying22 (by kernel_rfl) tr_5
theorem shp_22 : Shp Tryz.prog 22 (List (Ik .u8)) := shp_slice Tryz.underlying22
end Go.Proofs.YtlepdmenejbleaaGreat
