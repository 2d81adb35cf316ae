/-
  The readings of the form, as readings of plain data. No condition.
-/
import Derived.Test.YtlikagofgciflaaProg
import Derived.Test.YtlikagofgciflaaWf
import Derived.KernelRfl
namespace Go.Proofs.Ytlikagofgciflaa
open Go Go.Tc Go.Fn
set_option linter.unusedVariables false
theorem tr_5 : Tr Try.prog 5 (Ik .u8) := tr_ik Try.underlying5
theorem tr_22 : Tr Try.prog 22 (List (Ik .u8)) := tr_slice Try.underlying22 (by kernel_rfl) tr_5
theorem shp_22 : Shp Try.prog 22 (List (Ik .u8)) := shp_slice Try.underlying22
end Go.Proofs.Ytlikagofgciflaa
