/-
  The law FnExactStepsOfDerivation returns true for every input, and leaves its arguments as they were. No condition.
-/
import Derived.Test.YtfklpjdenigohaaRows
import Derived.Test.YtfklpjdenigohaaJn
import Derived.Test.YtfklpjdenigohaaTr
import Derived.Test.YtfklpjdenigohaaCon23
import Derived.Test.YtfklpjdenigohaaPSteps
import Derived.WalkKit
import Derived.ProofKit
import Derived.OpenShut
import Derived.ShutString
import Derived.ChangeOld
import Derived.Below
namespace Go.Proofs.Ytfklpjdenigohaa.fnExactStepsOfDerivation
open Go.ChangeShapes Go.WideShapes Go.ChangeAt Go.RowKit Go.Tc Go.Fn

theorem walk (v0 : Value) (x0 : GMachine) (v1 : Value) (x1 : GConfig) (v2 : Value) (x2 : (List (List Int))) (w : World) (r0 : Rd nowhere w v0 x0) (w0 : Wf.wf x0) (r1 : Rd nowhere w v1 x1) (w1 : Wf.wf x1) (r2 : Rd nowhere w v2 x2) (w2 : Wf.wf x2) :
    Calls Try.prog 14 #[v0, v1, v2] w fun e w' => e = .returned (.bool true) ∧ Below w.heap.size w w' := by
  exact walk_of (c_laws_FnExactStepsOfDerivation nowhere w (fun _ h => h.elim) v0 x0 r0 v1 x1 r1 v2 x2 r2 true (law_StepsOfDerivation x0 x1 x2 w0 w1 w2)) rfl

set_option maxRecDepth 100000 in
theorem lifted (os : Os) (started : os.Started) (H : Type) (enc : TypeId × Value → H) :
    ReturnsInHanded {} Try.checked os 14 .any (Rows.fnExactStepsOfDerivationSpec.pre6 enc Try.prog Try.f14 Rows.fnExactStepsOfDerivationRow.domain false) (Rows.fnExactStepsOfDerivationSpec.post enc Try.prog Try.f14 false true false false) := by
  refine returnsInHanded_of_change (C := Try.checked) own started (by kernel_rfl) Try.func14
    (ChangeSpec.witness6 (enc := enc) (C := Try.checked) false ⟨#[], #[.agg #[.int .i64 0, .int .i64 0, .slice none 0 0], .agg #[.int .i64 0, .slice none 0 0, .slice none 0 0], .slice none 0 0], []⟩ 8 (by kernel_rfl) (by kernel_rfl) (by kernel_rfl) (by kernel_rfl)) ?_
  intro W base args ds gs before hval0 hW hcnd _
  have hval : ∀ (j : Nat) t v, Try.f14.params[j]? = some t → args[j]? = some v → Value.okWide Try.prog W .any base t v := hval0
  have hW' := hW
  obtain ⟨p, q, hA0, hV, rfl, hfz, hnd⟩ := hW
  have hA : DataW.TrodAll enc Try.prog W 0 (fun _ => true) true Try.f14.params.toList args.toList ds p := hA0
  rw [Try.params14] at hA hval
  obtain ⟨v0, vs0, d0, ds0, p0, q0, hargs, rfl, rfl, h0, r0⟩ := trodAll_cons hA
  obtain ⟨v1, vs1, d1, ds1, p1, q1, rfl, rfl, rfl, h1, r1⟩ := trodAll_cons r0
  obtain ⟨v2, vs2, d2, ds2, p2, q2, rfl, rfl, rfl, h2, r2⟩ := trodAll_cons r1
  obtain ⟨rfl, rfl, rfl⟩ := trodAll_nil r2
  obtain rfl : args = #[v0, v1, v2] := by cases args; simp_all
  obtain ⟨rfl, rfl⟩ := trodVars_none hV
  have lt0 : ∀ x ∈ p0, x.block < W.heap.size := by obtain ⟨m, hm⟩ := h0; exact DataW.trod_lt m _ _ _ hm
  obtain ⟨x0, e0, w0⟩ := rd_of shp_30 tr_30 (hval 0 30 v0 rfl rfl) h0
  have lt1 : ∀ x ∈ p1, x.block < W.heap.size := by obtain ⟨m, hm⟩ := h1; exact DataW.trod_lt m _ _ _ hm
  obtain ⟨x1, e1, w1⟩ := rd_of shp_61 tr_61 (hval 1 61 v1 rfl rfl) h1
  have lt2 : ∀ x ∈ p2, x.block < W.heap.size := by obtain ⟨m, hm⟩ := h2; exact DataW.trod_lt m _ _ _ hm
  obtain ⟨x2, e2, w2⟩ := rd_of shp_22 tr_22 (hval 2 22 v2 rfl rfl) h2
  clear hA0 hval0
  refine (walk v0 x0 v1 x1 v2 x2 W e0 w0 e1 w1 e2 w2).mono fun e W' ⟨he, bel⟩ => ?_
  subst he
  exact ⟨_, rfl, _, _, _, [], _, [], hW', trodAll_mk1 (shut_bool Try.underlying4 _), (trodAll_cons_mk (Below.trod laidOut (by kernel_rfl) (of_decide_eq_true (by kernel_rfl)) h0 bel lt0) (trodAll_cons_mk (Below.trod laidOut (by kernel_rfl) (of_decide_eq_true (by kernel_rfl)) h1 bel lt1) (trodAll_cons_mk (Below.trod laidOut (by kernel_rfl) (of_decide_eq_true (by kernel_rfl)) h2 bel lt2) trodAll_mk0))), rfl, bel.frame _, fun h => by cases h⟩

theorem k1 : Rows.fnExactStepsOfDerivationRow.wf (OpenSpec.ofChange Rows.fnExactStepsOfDerivationSpec) = true := by kernel_rfl
theorem k3 : (mapsRowed Try.prog && Try.f14.params.all (Try.prog.readableRec ·) && namedTie Try.prog Rows.fnExactStepsOfDerivationRow.named Rows.fnExactStepsOfDerivationSpec.vars) = true := by kernel_rfl
theorem k4 : ((Rows.fnExactStepsOfDerivationRow.stops == []) && (Try.prog.stops == []) && (Rows.fnExactStepsOfDerivationRow.knobs == []) && (Try.prog.stopKnobs == [])) = true := by kernel_rfl
theorem k5 : (Rows.fnExactStepsOfDerivationRow.inPlace == Try.prog.inPlace 14) = true := by kernel_rfl
theorem k6 : (Rows.fnExactStepsOfDerivationRow.unfollowed == Try.prog.unfollowed 14) = true := by kernel_rfl
theorem k7 : (Rows.fnExactStepsOfDerivationRow.recurses == Try.prog.recurses 14) = true := by kernel_rfl
theorem k8 : (Rows.fnExactStepsOfDerivationRow.named == Try.prog.varsNamed 14) = true := by kernel_rfl
theorem k9 : ((Rows.fnExactStepsOfDerivationRow.maps == (Try.f14.params.toList ++ Rows.fnExactStepsOfDerivationSpec.plain.varTypes Try.prog).any (Try.prog.mapsRec ·)) && (Rows.fnExactStepsOfDerivationRow.ifaces == (Try.f14.params.toList ++ Rows.fnExactStepsOfDerivationSpec.plain.varTypes Try.prog).any (Try.prog.ifacesRec ·)) && (Rows.fnExactStepsOfDerivationRow.mapsOut == Try.prog.mapsAmong Try.f14.resultTypes.toList)) = true := by kernel_rfl
theorem k10 : ((Rows.fnExactStepsOfDerivationRow.loops == (Try.f14.params.toList ++ Rows.fnExactStepsOfDerivationSpec.plain.varTypes Try.prog).any (Try.prog.loopsFrom ·)) && (Rows.fnExactStepsOfDerivationRow.wideKeys == (Try.f14.params.toList ++ Rows.fnExactStepsOfDerivationSpec.plain.varTypes Try.prog ++ Try.f14.resultTypes.toList).any (Try.prog.wideKeysFrom ·))) = true := by kernel_rfl
theorem k11 : (Rows.fnExactStepsOfDerivationSpec.vars.all (Try.prog.varReadable ·) && Try.f14.resultTypes.all (fun t => Try.prog.readableRec t && decide (t < Try.prog.types.size)) && (Rows.fnExactStepsOfDerivationRow.ifacesOut == Try.f14.resultTypes.toList.any (Try.prog.ifacesRec ·)) && (Rows.fnExactStepsOfDerivationRow.loopsOut == Try.f14.resultTypes.toList.any (Try.prog.loopsFrom ·)) && (Rows.fnExactStepsOfDerivationRow.plainKeys == Try.prog.plainKeys) && Rows.fnExactStepsOfDerivationRow.shortTexts.isNone) = true := by kernel_rfl
theorem k16 : kindsOk Try.prog Try.f14 Rows.fnExactStepsOfDerivationRow = true := by kernel_rfl
theorem k17 : ((Rows.fnExactStepsOfDerivationRow.veiled == (Try.f14.params.toList ++ Rows.fnExactStepsOfDerivationSpec.plain.varTypes Try.prog ++ Try.f14.resultTypes.toList).any (Try.prog.veiledRec ·)) && Rows.fnExactStepsOfDerivationRow.veiledFits Try.prog Try.f14.params.toList (Try.f14.params.toList ++ Rows.fnExactStepsOfDerivationSpec.plain.varTypes Try.prog ++ Try.f14.resultTypes.toList)) = true := by kernel_rfl
theorem kn : Try.prog.funcNamed Rows.fnExactStepsOfDerivationRow.func = some 14 := by kernel_rfl
theorem ki : Try.f14.isInstance Try.prog Rows.fnExactStepsOfDerivationRow.origin Rows.fnExactStepsOfDerivationRow.targs := of_decide_eq_true (by kernel_rfl)
theorem kl : (Rows.fnExactStepsOfDerivationRow.lifted == Try.prog.liftsFinal) = true := by rw [show Rows.fnExactStepsOfDerivationRow.lifted = Rows.fnExactMultiplySquaresRow.lifted from rfl]; exact lifts
theorem km : (Try.prog.make == some Rows.fnExactStepsOfDerivationRow.make) = true := by rw [show Rows.fnExactStepsOfDerivationRow.make = Rows.fnExactMultiplySquaresRow.make from rfl]; exact makes
theorem kj : joinedFacts Try.prog 14 Try.f14 Rows.fnExactStepsOfDerivationSpec Rows.fnExactStepsOfDerivationRow = true := joined_of k1 laidOut k3 k4 k5 k6 k7 k8 k9 k10 k11 heard enters kl km k16 k17
theorem over : Rows.fnExactStepsOfDerivationRow.holds Try.pinned (OpenSpec.ofChange Rows.fnExactStepsOfDerivationSpec) :=
  OpenClaim.holds_of_wide 14 Try.f14 rfl rfl rfl rfl rfl rfl rfl ⟨rfl, rfl, rfl, rfl, rfl⟩ rfl rfl rfl rfl rfl kn Try.func14 kj
    ki (by unfold Func.isWrapper; first | (rw [if_pos (by decide +kernel)]; kernel_rfl) | (rw [if_neg (by decide +kernel)]; exact ⟨rfl, rfl⟩))
    (fun os started H enc _ => lifted os started H enc)

theorem proved : Rows.FnExactStepsOfDerivationSaid := over
end Go.Proofs.Ytfklpjdenigohaa.fnExactStepsOfDerivation
