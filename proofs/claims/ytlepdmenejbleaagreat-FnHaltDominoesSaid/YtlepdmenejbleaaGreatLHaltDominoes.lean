/-
  The law FnHaltDominoes returns true for every input, and leaves its arguments as they were. No condition.
-/
import Derived.Test.YtlepdmenejbleaaGreatRows
import Derived.Test.YtlepdmenejbleaaGreatJn
import Derived.Test.YtlepdmenejbleaaGreatTr
import Derived.Test.YtlepdmenejbleaaGreatCon7
import Derived.Test.YtlepdmenejbleaaGreatPM3
import Derived.WalkKit
import Derived.ProofKit
import Derived.OpenShut
import Derived.ShutString
import Derived.ChangeOld
import Derived.Below
namespace Go.Proofs.YtlepdmenejbleaaGreat.fnHaltDominoes
open Go.ChangeShapes Go.WideShapes Go.ChangeAt Go.RowKit Go.Tc Go.Fn
theorem walk (v0 : Value) (x0 : (List (Ik .u8))) (w : World) (r0 : Rd nowhere w v0 x0) (w0 : Wf.wf x0) :
  Calls Tryz.prog 3 #[v0] w fun e w' => e = .returned (.bool true) ∧ Below w.heap.size w w' := by
 exact walk_of (c_laws_FnHaltDominoes nowhere w (fun _ h => h.elim) v0 x0 r0 true (law_HaltDominoes x0 w0)) rfl
set_option maxRecDepth 100000 in
theorem lifted (os : Os) (started : os.Started) (H : Type) (enc : TypeId × Value → H) :
  ReturnsInHanded {} Tryz.checked os 3 .any (Rows.fnHaltDominoesSpec.pre6 enc Tryz.prog Tryz.f3 Rows.fnHaltDominoesRow.domain false) (Rows.fnHaltDominoesSpec.post enc Tryz.prog Tryz.f3 false true false false) := by
 refine returnsInHanded_of_change (C := Tryz.checked) own started (by kernel_rfl) Tryz.func3
  (ChangeSpec.witness6 (enc := enc) (C := Tryz.checked) false ⟨#[], #[.slice none 0 0], []⟩ 8 (by kernel_rfl) (by kernel_rfl) (by kernel_rfl) (by kernel_rfl)) ?_
 intro W base args ds gs before hval0 hW hcnd _
 have hval : ∀ (j : Nat) t v, Tryz.f3.params[j]? = some t → args[j]? = some v → Value.okWide Tryz.prog W .any base t v := hval0
 have hW' := hW
 obtain ⟨p, q, hA0, hV, rfl, hfz, hnd⟩ := hW
 have hA : DataW.TrodAll enc Tryz.prog W 0 (fun _ => true) true Tryz.f3.params.toList args.toList ds p := hA0
 rw [Tryz.params3] at hA hval
 obtain ⟨v0, vs0, d0, ds0, p0, q0, hargs, rfl, rfl, h0, r0⟩ := trodAll_cons hA
 obtain ⟨rfl, rfl, rfl⟩ := trodAll_nil r0
 obtain rfl : args = #[v0] := by cases args; simp_all
 obtain ⟨rfl, rfl⟩ := trodVars_none hV
 have lt0 : ∀ x ∈ p0, x.block < W.heap.size := by obtain ⟨m, hm⟩ := h0; exact DataW.trod_lt m _ _ _ hm
 obtain ⟨x0, e0, w0⟩ := rd_of shp_22 tr_22 (hval 0 22 v0 rfl rfl) h0
 clear hA0 hval0
 refine (walk v0 x0 W e0 w0).mono fun e W' ⟨he, bel⟩ => ?_
 subst he
 exact ⟨_, rfl, _, _, _, [], _, [], hW', trodAll_mk1 (shut_bool Tryz.underlying4 _), (trodAll_cons_mk (Below.trod laidOut (by kernel_rfl) (of_decide_eq_true (by kernel_rfl)) h0 bel lt0) trodAll_mk0), rfl, bel.frame _, fun h => by cases h⟩
theorem k1 : Rows.fnHaltDominoesRow.wf (OpenSpec.ofChange Rows.fnHaltDominoesSpec) = true := by kernel_rfl
theorem k3 : (mapsRowed Tryz.prog && Tryz.f3.params.all (Tryz.prog.readableRec ·) && namedTie Tryz.prog Rows.fnHaltDominoesRow.named Rows.fnHaltDominoesSpec.vars) = true := by kernel_rfl
theorem k4 : ((Rows.fnHaltDominoesRow.stops == []) && (Tryz.prog.stops == []) && (Rows.fnHaltDominoesRow.knobs == []) && (Tryz.prog.stopKnobs == [])) = true := by kernel_rfl
theorem k5 : (Rows.fnHaltDominoesRow.inPlace == Tryz.prog.inPlace 3) = true := by kernel_rfl
theorem k6 : (Rows.fnHaltDominoesRow.unfollowed == Tryz.prog.unfollowed 3) = true := by kernel_rfl
theorem k7 : (Rows.fnHaltDominoesRow.recurses == Tryz.prog.recurses 3) = true := by kernel_rfl
theorem k8 : (Rows.fnHaltDominoesRow.named == Tryz.prog.varsNamed 3) = true := by kernel_rfl
theorem k9 : ((Rows.fnHaltDominoesRow.maps == (Tryz.f3.params.toList ++ Rows.fnHaltDominoesSpec.plain.varTypes Tryz.prog).any (Tryz.prog.mapsRec ·)) && (Rows.fnHaltDominoesRow.ifaces == (Tryz.f3.params.toList ++ Rows.fnHaltDominoesSpec.plain.varTypes Tryz.prog).any (Tryz.prog.ifacesRec ·)) && (Rows.fnHaltDominoesRow.mapsOut == Tryz.prog.mapsAmong Tryz.f3.resultTypes.toList)) = true := by kernel_rfl
theorem k10 : ((Rows.fnHaltDominoesRow.loops == (Tryz.f3.params.toList ++ Rows.fnHaltDominoesSpec.plain.varTypes Tryz.prog).any (Tryz.prog.loopsFrom ·)) && (Rows.fnHaltDominoesRow.wideKeys == (Tryz.f3.params.toList ++ Rows.fnHaltDominoesSpec.plain.varTypes Tryz.prog ++ Tryz.f3.resultTypes.toList).any (Tryz.prog.wideKeysFrom ·))) = true := by kernel_rfl
theorem k11 : (Rows.fnHaltDominoesSpec.vars.all (Tryz.prog.varReadable ·) && Tryz.f3.resultTypes.all (fun t => Tryz.prog.readableRec t && decide (t < Tryz.prog.types.size)) && (Rows.fnHaltDominoesRow.ifacesOut == Tryz.f3.resultTypes.toList.any (Tryz.prog.ifacesRec ·)) && (Rows.fnHaltDominoesRow.loopsOut == Tryz.f3.resultTypes.toList.any (Tryz.prog.loopsFrom ·)) && (Rows.fnHaltDominoesRow.plainKeys == Tryz.prog.plainKeys) && Rows.fnHaltDominoesRow.shortTexts.isNone) = true := by kernel_rfl
theorem k16 : kindsOk Tryz.prog Tryz.f3 Rows.fnHaltDominoesRow = true := by kernel_rfl
theorem k17 : ((Rows.fnHaltDominoesRow.veiled == (Tryz.f3.params.toList ++ Rows.fnHaltDominoesSpec.plain.varTypes Tryz.prog ++ Tryz.f3.resultTypes.toList).any (Tryz.prog.veiledRec ·)) && Rows.fnHaltDominoesRow.veiledFits Tryz.prog Tryz.f3.params.toList (Tryz.f3.params.toList ++ Rows.fnHaltDominoesSpec.plain.varTypes Tryz.prog ++ Tryz.f3.resultTypes.toList)) = true := by kernel_rfl
theorem kn : Tryz.prog.funcNamed Rows.fnHaltDominoesRow.func = some 3 := by kernel_rfl
theorem ki : Tryz.f3.isInstance Tryz.prog Rows.fnHaltDominoesRow.origin Rows.fnHaltDominoesRow.targs := of_decide_eq_true (by kernel_rfl)
theorem kl : (Rows.fnHaltDominoesRow.lifted == Tryz.prog.liftsFinal) = true := lifts
theorem km : (Tryz.prog.make == some Rows.fnHaltDominoesRow.make) = true := makes
theorem kj : joinedFacts Tryz.prog 3 Tryz.f3 Rows.fnHaltDominoesSpec Rows.fnHaltDominoesRow = true := joined_of k1 laidOut k3 k4 k5 k6 k7 k8 k9 k10 k11 heard enters kl km k16 k17
theorem over : Rows.fnHaltDominoesRow.holds Tryz.pinned (OpenSpec.ofChange Rows.fnHaltDominoesSpec) :=
 OpenClaim.holds_of_wide 3 Tryz.f3 rfl rfl rfl rfl rfl rfl rfl ⟨rfl, rfl, rfl, rfl, rfl⟩ rfl rfl rfl rfl rfl kn Tryz.func3 kj
  ki (by unfold Func.isWrapper; first | (rw [if_pos (by decide +kernel)]; kernel_rfl) | (rw [if_neg (by decide +kernel)]; exact ⟨rfl, rfl⟩))
  (fun os started H enc _ => lifted os started H enc)
theorem proved : Rows.FnHaltDominoesSaid := over
end Go.Proofs.YtlepdmenejbleaaGreat.fnHaltDominoes
