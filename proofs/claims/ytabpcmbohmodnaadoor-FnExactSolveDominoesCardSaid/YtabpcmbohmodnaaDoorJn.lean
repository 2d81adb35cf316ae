/-
  The closed facts that all rows of the seat share. No condition.
-/
import Derived.Test.YtabpcmbohmodnaaDoorRows
import Derived.Test.YtabpcmbohmodnaaDoorPure
import Derived.KernelRfl
import Derived.WalkKit
import Derived.OpenShut
namespace Go.Proofs.YtabpcmbohmodnaaDoor
open Go Go.Tc
theorem own : ownKnob Tryd.prog.godebug = none := by kernel_rfl
theorem laidOut : laidOutB Tryd.prog = true := by kernel_rfl
theorem heard : Tryd.prog.stopsHeard = true := by kernel_rfl
theorem enters : Tryd.prog.mayEnter = true := by kernel_rfl
theorem lifts : (Rows.fnExactSolveDominoesRow.lifted == Tryd.prog.liftsFinal) = true := by kernel_rfl
theorem makes : (Tryd.prog.make == some Rows.fnExactSolveDominoesRow.make) = true := by kernel_rfl
end Go.Proofs.YtabpcmbohmodnaaDoor
