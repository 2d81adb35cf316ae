/-
  The law FnExactHaltDerivation returns true for every input, and leaves its arguments as they were. No condition.
-/
import Derived.Test.YtneglngdbcefgaaRows
import Derived.Test.YtneglngdbcefgaaJn
import Derived.Test.YtneglngdbcefgaaTr
import Derived.Test.YtneglngdbcefgaaCon6
import Derived.Test.YtneglngdbcefgaaPHdG
import Derived.WalkKit
import Derived.ProofKit
import Derived.OpenShut
import Derived.ShutString
import Derived.ChangeOld
import Derived.Below
namespace Go.Proofs.Ytneglngdbcefgaa.fnExactHaltDerivation
open Go.ChangeShapes Go.WideShapes Go.ChangeAt Go.RowKit Go.Tc Go.Fn

theorem walk (v0 : Value) (x0 : GMachine) (v1 : Value) (x1 : GConfig) (v2 : Value) (x2 : Int) (w : World) (r0 : Rd nowhere w v0 x0) (w0 : Wf.wf x0) (r1 : Rd nowhere w v1 x1) (w1 : Wf.wf x1) (r2 : Rd nowhere w v2 x2) (w2 : Wf.wf x2) :
    Calls Try.prog 5 #[v0, v1, v2] w fun e w' => e = .returned (.bool true) ∧ Below w.heap.size w w' := by
  obtain rfl := Rd.int r2
  exact walk_of (c_laws_FnExactHaltDerivation nowhere w (fun _ h => h.elim) v0 x0 r0 v1 x1 r1 x2 true (law_HaltDerivation x0 x1 x2 w0 w1 w2)) rfl

set_option maxRecDepth 100000 in
theorem lifted (os : Os) (started : os.Started) (H : Type) (enc : TypeId × Value → H) :
    ReturnsInHanded {} Try.checked os 5 .any (Rows.fnExactHaltDerivationSpec.pre6 enc Try.prog Try.f5 Rows.fnExactHaltDerivationRow.domain false) (Rows.fnExactHaltDerivationSpec.post enc Try.prog Try.f5 false true false false) := by
  refine returnsInHanded_of_change (C := Try.checked) own started (by kernel_rfl) Try.func5
    (ChangeSpec.witness6 (enc := enc) (C := Try.checked) false ⟨#[], #[.agg #[.int .i64 0, .int .i64 0, .slice none 0 0], .agg #[.int .i64 0, .slice none 0 0, .slice none 0 0], .int .i64 0], []⟩ 8 (by kernel_rfl) (by kernel_rfl) (by kernel_rfl) (by kernel_rfl)) ?_
  intro W base args ds gs before hval0 hW hcnd _
  have hval : ∀ (j : Nat) t v, Try.f5.params[j]? = some t → args[j]? = some v → Value.okWide Try.prog W .any base t v := hval0
  have hW' := hW
  obtain ⟨p, q, hA0, hV, rfl, hfz, hnd⟩ := hW
  have hA : DataW.TrodAll enc Try.prog W 0 (fun _ => true) true Try.f5.params.toList args.toList ds p := hA0
  rw [Try.params5] at hA hval
  obtain ⟨v0, vs0, d0, ds0, p0, q0, hargs, rfl, rfl, h0, r0⟩ := trodAll_cons hA
  obtain ⟨v1, vs1, d1, ds1, p1, q1, rfl, rfl, rfl, h1, r1⟩ := trodAll_cons r0
  obtain ⟨v2, vs2, d2, ds2, p2, q2, rfl, rfl, rfl, h2, r2⟩ := trodAll_cons r1
  obtain ⟨rfl, rfl, rfl⟩ := trodAll_nil r2
  obtain rfl : args = #[v0, v1, v2] := by cases args; simp_all
  obtain ⟨rfl, rfl⟩ := trodVars_none hV
  have lt0 : ∀ x ∈ p0, x.block < W.heap.size := by obtain ⟨m, hm⟩ := h0; exact DataW.trod_lt m _ _ _ hm
  obtain ⟨x0, e0, w0⟩ := rd_of shp_52 tr_52 (hval 0 52 v0 rfl rfl) h0
  have lt1 : ∀ x ∈ p1, x.block < W.heap.size := by obtain ⟨m, hm⟩ := h1; exact DataW.trod_lt m _ _ _ hm
  obtain ⟨x1, e1, w1⟩ := rd_of shp_54 tr_54 (hval 1 54 v1 rfl rfl) h1
  have lt2 : ∀ x ∈ p2, x.block < W.heap.size := by obtain ⟨m, hm⟩ := h2; exact DataW.trod_lt m _ _ _ hm
  obtain ⟨x2, e2, w2⟩ := rd_of shp_2 tr_2 (hval 2 2 v2 rfl rfl) h2
  clear hA0 hval0
  refine (walk v0 x0 v1 x1 v2 x2 W e0 w0 e1 w1 e2 w2).mono fun e W' ⟨he, bel⟩ => ?_
  subst he
  exact ⟨_, rfl, _, _, _, [], _, [], hW', trodAll_mk1 (shut_bool Try.underlying4 _), (trodAll_cons_mk (Below.trod laidOut (by kernel_rfl) (of_decide_eq_true (by kernel_rfl)) h0 bel lt0) (trodAll_cons_mk (Below.trod laidOut (by kernel_rfl) (of_decide_eq_true (by kernel_rfl)) h1 bel lt1) (trodAll_cons_mk (Below.trod laidOut (by kernel_rfl) (of_decide_eq_true (by kernel_rfl)) h2 bel lt2) trodAll_mk0))), rfl, bel.frame _, fun h => by cases h⟩

theorem k1 : Rows.fnExactHaltDerivationRow.wf (OpenSpec.ofChange Rows.fnExactHaltDerivationSpec) = true := by kernel_rfl
theorem k3 : (mapsRowed Try.prog && Try.f5.params.all (Try.prog.readableRec ·) && namedTie Try.prog Rows.fnExactHaltDerivationRow.named Rows.fnExactHaltDerivationSpec.vars) = true := by kernel_rfl
theorem k4 : ((Rows.fnExactHaltDerivationRow.stops == []) && (Try.prog.stops == []) && (Rows.fnExactHaltDerivationRow.knobs == []) && (Try.prog.stopKnobs == [])) = true := by kernel_rfl
theorem k5 : (Rows.fnExactHaltDerivationRow.inPlace == Try.prog.inPlace 5) = true := by kernel_rfl
theorem k6 : (Rows.fnExactHaltDerivationRow.unfollowed == Try.prog.unfollowed 5) = true := by kernel_rfl
theorem k7 : (Rows.fnExactHaltDerivationRow.recurses == Try.prog.recurses 5) = true := by kernel_rfl
theorem k8 : (Rows.fnExactHaltDerivationRow.named == Try.prog.varsNamed 5) = true := by kernel_rfl
theorem k9 : ((Rows.fnExactHaltDerivationRow.maps == (Try.f5.params.toList ++ Rows.fnExactHaltDerivationSpec.plain.varTypes Try.prog).any (Try.prog.mapsRec ·)) && (Rows.fnExactHaltDerivationRow.ifaces == (Try.f5.params.toList ++ Rows.fnExactHaltDerivationSpec.plain.varTypes Try.prog).any (Try.prog.ifacesRec ·)) && (Rows.fnExactHaltDerivationRow.mapsOut == Try.prog.mapsAmong Try.f5.resultTypes.toList)) = true := by kernel_rfl
theorem k10 : ((Rows.fnExactHaltDerivationRow.loops == (Try.f5.params.toList ++ Rows.fnExactHaltDerivationSpec.plain.varTypes Try.prog).any (Try.prog.loopsFrom ·)) && (Rows.fnExactHaltDerivationRow.wideKeys == (Try.f5.params.toList ++ Rows.fnExactHaltDerivationSpec.plain.varTypes Try.prog ++ Try.f5.resultTypes.toList).any (Try.prog.wideKeysFrom ·))) = true := by kernel_rfl
theorem k11 : (Rows.fnExactHaltDerivationSpec.vars.all (Try.prog.varReadable ·) && Try.f5.resultTypes.all (fun t => Try.prog.readableRec t && decide (t < Try.prog.types.size)) && (Rows.fnExactHaltDerivationRow.ifacesOut == Try.f5.resultTypes.toList.any (Try.prog.ifacesRec ·)) && (Rows.fnExactHaltDerivationRow.loopsOut == Try.f5.resultTypes.toList.any (Try.prog.loopsFrom ·)) && (Rows.fnExactHaltDerivationRow.plainKeys == Try.prog.plainKeys) && Rows.fnExactHaltDerivationRow.shortTexts.isNone) = true := by kernel_rfl
theorem k16 : kindsOk Try.prog Try.f5 Rows.fnExactHaltDerivationRow = true := by kernel_rfl
theorem k17 : ((Rows.fnExactHaltDerivationRow.veiled == (Try.f5.params.toList ++ Rows.fnExactHaltDerivationSpec.plain.varTypes Try.prog ++ Try.f5.resultTypes.toList).any (Try.prog.veiledRec ·)) && Rows.fnExactHaltDerivationRow.veiledFits Try.prog Try.f5.params.toList (Try.f5.params.toList ++ Rows.fnExactHaltDerivationSpec.plain.varTypes Try.prog ++ Try.f5.resultTypes.toList)) = true := by kernel_rfl
theorem kn : Try.prog.funcNamed Rows.fnExactHaltDerivationRow.func = some 5 := by kernel_rfl
theorem ki : Try.f5.isInstance Try.prog Rows.fnExactHaltDerivationRow.origin Rows.fnExactHaltDerivationRow.targs := of_decide_eq_true (by kernel_rfl)
theorem kl : (Rows.fnExactHaltDerivationRow.lifted == Try.prog.liftsFinal) = true := by rw [show Rows.fnExactHaltDerivationRow.lifted = Rows.fnExactNormalFormsOfRow.lifted from rfl]; exact lifts
theorem km : (Try.prog.make == some Rows.fnExactHaltDerivationRow.make) = true := by rw [show Rows.fnExactHaltDerivationRow.make = Rows.fnExactNormalFormsOfRow.make from rfl]; exact makes
theorem kj : joinedFacts Try.prog 5 Try.f5 Rows.fnExactHaltDerivationSpec Rows.fnExactHaltDerivationRow = true := joined_of k1 laidOut k3 k4 k5 k6 k7 k8 k9 k10 k11 heard enters kl km k16 k17
theorem over : Rows.fnExactHaltDerivationRow.holds Try.pinned (OpenSpec.ofChange Rows.fnExactHaltDerivationSpec) :=
  OpenClaim.holds_of_wide 5 Try.f5 rfl rfl rfl rfl rfl rfl rfl ⟨rfl, rfl, rfl, rfl, rfl⟩ rfl rfl rfl rfl rfl kn Try.func5 kj
    ki (by unfold Func.isWrapper; first | (rw [if_pos (by decide +kernel)]; kernel_rfl) | (rw [if_neg (by decide +kernel)]; exact ⟨rfl, rfl⟩))
    (fun os started H enc _ => lifted os started H enc)

theorem proved : Rows.FnExactHaltDerivationSaid := over
end Go.Proofs.Ytneglngdbcefgaa.fnExactHaltDerivation
