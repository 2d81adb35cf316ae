/-
  The closed facts that all rows of the seat share. No condition.
-/
import Derived.Test.YtlikagofgciflaaRows
import Derived.Test.YtlikagofgciflaaPure
import Derived.KernelRfl
import Derived.WalkKit
import Derived.OpenShut
namespace Go.Proofs.Ytlikagofgciflaa
open Go Go.Tc
theorem own : ownKnob Try.prog.godebug = none := by kernel_rfl
theorem laidOut : laidOutB Try.prog = true := by kernel_rfl
theorem heard : Try.prog.stopsHeard = true := by kernel_rfl
theorem enters : Try.prog.mayEnter = true := by kernel_rfl
theorem lifts : (Rows.fnProgramTreesRow.lifted == Try.prog.liftsFinal) = true := by kernel_rfl
theorem makes : (Try.prog.make == some Rows.fnProgramTreesRow.make) = true := by kernel_rfl
end Go.Proofs.Ytlikagofgciflaa
