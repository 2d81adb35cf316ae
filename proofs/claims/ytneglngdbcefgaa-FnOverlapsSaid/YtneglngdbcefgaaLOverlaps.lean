/-
  The law FnOverlaps returns true for every input, and leaves its arguments as they were. No condition.
-/
import Derived.Test.YtneglngdbcefgaaRows
import Derived.Test.YtneglngdbcefgaaJn
import Derived.Test.YtneglngdbcefgaaTr
import Derived.Test.YtneglngdbcefgaaCon5
import Derived.Test.YtneglngdbcefgaaPOvF
import Derived.WalkKit
import Derived.ProofKit
import Derived.OpenShut
import Derived.ShutString
import Derived.ChangeOld
import Derived.Below
namespace Go.Proofs.Ytneglngdbcefgaa.fnOverlaps
open Go.ChangeShapes Go.WideShapes Go.ChangeAt Go.RowKit Go.Tc Go.Fn

theorem walk (v0 : Value) (x0 : (List (Ik .u8))) (w : World) (r0 : Rd nowhere w v0 x0) (w0 : Wf.wf x0) :
    Calls Try.prog 4 #[v0] w fun e w' => e = .returned (.bool true) ∧ Below w.heap.size w w' := by
  exact walk_of (c_laws_FnOverlaps nowhere w (fun _ h => h.elim) v0 x0 r0 true (law_Overlaps x0 w0)) rfl

set_option maxRecDepth 100000 in
theorem lifted (os : Os) (started : os.Started) (H : Type) (enc : TypeId × Value → H) :
    ReturnsInHanded {} Try.checked os 4 .any (Rows.fnOverlapsSpec.pre6 enc Try.prog Try.f4 Rows.fnOverlapsRow.domain false) (Rows.fnOverlapsSpec.post enc Try.prog Try.f4 false true false false) := by
  refine returnsInHanded_of_change (C := Try.checked) own started (by kernel_rfl) Try.func4
    (ChangeSpec.witness6 (enc := enc) (C := Try.checked) false ⟨#[], #[.slice none 0 0], []⟩ 8 (by kernel_rfl) (by kernel_rfl) (by kernel_rfl) (by kernel_rfl)) ?_
  intro W base args ds gs before hval0 hW hcnd _
  have hval : ∀ (j : Nat) t v, Try.f4.params[j]? = some t → args[j]? = some v → Value.okWide Try.prog W .any base t v := hval0
  have hW' := hW
  obtain ⟨p, q, hA0, hV, rfl, hfz, hnd⟩ := hW
  have hA : DataW.TrodAll enc Try.prog W 0 (fun _ => true) true Try.f4.params.toList args.toList ds p := hA0
  rw [Try.params4] at hA hval
  obtain ⟨v0, vs0, d0, ds0, p0, q0, hargs, rfl, rfl, h0, r0⟩ := trodAll_cons hA
  obtain ⟨rfl, rfl, rfl⟩ := trodAll_nil r0
  obtain rfl : args = #[v0] := by cases args; simp_all
  obtain ⟨rfl, rfl⟩ := trodVars_none hV
  have lt0 : ∀ x ∈ p0, x.block < W.heap.size := by obtain ⟨m, hm⟩ := h0; exact DataW.trod_lt m _ _ _ hm
  obtain ⟨x0, e0, w0⟩ := rd_of shp_38 tr_38 (hval 0 38 v0 rfl rfl) h0
  clear hA0 hval0
  refine (walk v0 x0 W e0 w0).mono fun e W' ⟨he, bel⟩ => ?_
  subst he
  exact ⟨_, rfl, _, _, _, [], _, [], hW', trodAll_mk1 (shut_bool Try.underlying4 _), (trodAll_cons_mk (Below.trod laidOut (by kernel_rfl) (of_decide_eq_true (by kernel_rfl)) h0 bel lt0) trodAll_mk0), rfl, bel.frame _, fun h => by cases h⟩

theorem k1 : Rows.fnOverlapsRow.wf (OpenSpec.ofChange Rows.fnOverlapsSpec) = true := by kernel_rfl
theorem k3 : (mapsRowed Try.prog && Try.f4.params.all (Try.prog.readableRec ·) && namedTie Try.prog Rows.fnOverlapsRow.named Rows.fnOverlapsSpec.vars) = true := by kernel_rfl
theorem k4 : ((Rows.fnOverlapsRow.stops == []) && (Try.prog.stops == []) && (Rows.fnOverlapsRow.knobs == []) && (Try.prog.stopKnobs == [])) = true := by kernel_rfl
theorem k5 : (Rows.fnOverlapsRow.inPlace == Try.prog.inPlace 4) = true := by kernel_rfl
theorem k6 : (Rows.fnOverlapsRow.unfollowed == Try.prog.unfollowed 4) = true := by kernel_rfl
theorem k7 : (Rows.fnOverlapsRow.recurses == Try.prog.recurses 4) = true := by kernel_rfl
theorem k8 : (Rows.fnOverlapsRow.named == Try.prog.varsNamed 4) = true := by kernel_rfl
theorem k9 : ((Rows.fnOverlapsRow.maps == (Try.f4.params.toList ++ Rows.fnOverlapsSpec.plain.varTypes Try.prog).any (Try.prog.mapsRec ·)) && (Rows.fnOverlapsRow.ifaces == (Try.f4.params.toList ++ Rows.fnOverlapsSpec.plain.varTypes Try.prog).any (Try.prog.ifacesRec ·)) && (Rows.fnOverlapsRow.mapsOut == Try.prog.mapsAmong Try.f4.resultTypes.toList)) = true := by kernel_rfl
theorem k10 : ((Rows.fnOverlapsRow.loops == (Try.f4.params.toList ++ Rows.fnOverlapsSpec.plain.varTypes Try.prog).any (Try.prog.loopsFrom ·)) && (Rows.fnOverlapsRow.wideKeys == (Try.f4.params.toList ++ Rows.fnOverlapsSpec.plain.varTypes Try.prog ++ Try.f4.resultTypes.toList).any (Try.prog.wideKeysFrom ·))) = true := by kernel_rfl
theorem k11 : (Rows.fnOverlapsSpec.vars.all (Try.prog.varReadable ·) && Try.f4.resultTypes.all (fun t => Try.prog.readableRec t && decide (t < Try.prog.types.size)) && (Rows.fnOverlapsRow.ifacesOut == Try.f4.resultTypes.toList.any (Try.prog.ifacesRec ·)) && (Rows.fnOverlapsRow.loopsOut == Try.f4.resultTypes.toList.any (Try.prog.loopsFrom ·)) && (Rows.fnOverlapsRow.plainKeys == Try.prog.plainKeys) && Rows.fnOverlapsRow.shortTexts.isNone) = true := by kernel_rfl
theorem k16 : kindsOk Try.prog Try.f4 Rows.fnOverlapsRow = true := by kernel_rfl
theorem k17 : ((Rows.fnOverlapsRow.veiled == (Try.f4.params.toList ++ Rows.fnOverlapsSpec.plain.varTypes Try.prog ++ Try.f4.resultTypes.toList).any (Try.prog.veiledRec ·)) && Rows.fnOverlapsRow.veiledFits Try.prog Try.f4.params.toList (Try.f4.params.toList ++ Rows.fnOverlapsSpec.plain.varTypes Try.prog ++ Try.f4.resultTypes.toList)) = true := by kernel_rfl
theorem kn : Try.prog.funcNamed Rows.fnOverlapsRow.func = some 4 := by kernel_rfl
theorem ki : Try.f4.isInstance Try.prog Rows.fnOverlapsRow.origin Rows.fnOverlapsRow.targs := of_decide_eq_true (by kernel_rfl)
theorem kl : (Rows.fnOverlapsRow.lifted == Try.prog.liftsFinal) = true := by rw [show Rows.fnOverlapsRow.lifted = Rows.fnExactNormalFormsOfRow.lifted from rfl]; exact lifts
theorem km : (Try.prog.make == some Rows.fnOverlapsRow.make) = true := by rw [show Rows.fnOverlapsRow.make = Rows.fnExactNormalFormsOfRow.make from rfl]; exact makes
theorem kj : joinedFacts Try.prog 4 Try.f4 Rows.fnOverlapsSpec Rows.fnOverlapsRow = true := joined_of k1 laidOut k3 k4 k5 k6 k7 k8 k9 k10 k11 heard enters kl km k16 k17
theorem over : Rows.fnOverlapsRow.holds Try.pinned (OpenSpec.ofChange Rows.fnOverlapsSpec) :=
  OpenClaim.holds_of_wide 4 Try.f4 rfl rfl rfl rfl rfl rfl rfl ⟨rfl, rfl, rfl, rfl, rfl⟩ rfl rfl rfl rfl rfl kn Try.func4 kj
    ki (by unfold Func.isWrapper; first | (rw [if_pos (by decide +kernel)]; kernel_rfl) | (rw [if_neg (by decide +kernel)]; exact ⟨rfl, rfl⟩))
    (fun os started H enc _ => lifted os started H enc)

theorem proved : Rows.FnOverlapsSaid := over
end Go.Proofs.Ytneglngdbcefgaa.fnOverlaps
