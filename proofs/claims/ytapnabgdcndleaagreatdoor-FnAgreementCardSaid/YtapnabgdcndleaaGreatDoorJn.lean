/-
  The closed facts that all rows of the seat share. No condition.
-/
import Derived.Test.YtapnabgdcndleaaGreatDoorRows
import Derived.Test.YtapnabgdcndleaaGreatDoorPure
import Derived.KernelRfl
import Derived.WalkKit
import Derived.OpenShut
namespace Go.Proofs.YtapnabgdcndleaaGreatDoor
open Go Go.Tc
theorem own:ownKnob Tryz.prog.godebug=none:=by kernel_rfl
theorem laidOut:laidOutB Tryz.prog=true:=by kernel_rfl
theorem heard:Tryz.prog.stopsHeard=true:=by kernel_rfl
theorem enters:Tryz.prog.mayEnter=true:=by kernel_rfl
theorem Qb:(Rows.fnAgreementRow.lifted==Tryz.prog.liftsFinal)=true:=by kernel_rfl
theorem makes:(Tryz.prog.make==some Rows.fnAgreementRow.make)=true:=by kernel_rfl
end Go.Proofs.YtapnabgdcndleaaGreatDoor
