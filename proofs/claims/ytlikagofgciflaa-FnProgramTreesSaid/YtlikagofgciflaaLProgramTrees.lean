/-
  The law FnProgramTrees returns true for every input, and leaves its arguments as they were. No condition.
-/
import Derived.Test.YtlikagofgciflaaRows
import Derived.Test.YtlikagofgciflaaJn
import Derived.Test.YtlikagofgciflaaTr
import Derived.Test.YtlikagofgciflaaCon5
import Derived.Test.YtlikagofgciflaaPTreL
import Derived.WalkKit
import Derived.ProofKit
import Derived.OpenShut
import Derived.ShutString
import Derived.ChangeOld
import Derived.Below
namespace Go.Proofs.Ytlikagofgciflaa.fnProgramTrees
open Go.ChangeShapes Go.WideShapes Go.ChangeAt Go.RowKit Go.Tc Go.Fn
theorem walk (v0 : Value) (x0 : (List (Ik .u8))) (v1 : Value) (x1 : (List (Ik .u8))) (w : World) (r0 : Rd nowhere w v0 x0) (w0 : Wf.wf x0) (r1 : Rd nowhere w v1 x1) (w1 : Wf.wf x1) :
  Calls Try.prog 3 #[v0, v1] w fun e w' => e = .returned (.bool true) ∧ Below w.heap.size w w' := by
 exact walk_of (c_laws_FnProgramTrees nowhere w (fun _ h => h.elim) v0 x0 r0 v1 x1 r1 true (law_ProgramTrees x0 x1 w0 w1)) rfl
set_option maxRecDepth 100000 in
theorem lifted (os : Os) (started : os.Started) (H : Type) (enc : TypeId × Value → H) :
  ReturnsInHanded {} Try.checked os 3 .any (Rows.fnProgramTreesSpec.pre6 enc Try.prog Try.f3 Rows.fnProgramTreesRow.domain false) (Rows.fnProgramTreesSpec.post enc Try.prog Try.f3 false true false false) := by
 refine returnsInHanded_of_change (C := Try.checked) own started (by kernel_rfl) Try.func3
  (ChangeSpec.witness6 (enc := enc) (C := Try.checked) false ⟨#[], #[.slice none 0 0, .slice none 0 0], []⟩ 8 (by kernel_rfl) (by kernel_rfl) (by kernel_rfl) (by kernel_rfl)) ?_
 intro W base args ds gs before hval0 hW hcnd _
 have hval : ∀ (j : Nat) t v, Try.f3.params[j]? = some t → args[j]? = some v → Value.okWide Try.prog W .any base t v := hval0
 have hW' := hW
 obtain ⟨p, q, hA0, hV, rfl, hfz, hnd⟩ := hW
 have hA : DataW.TrodAll enc Try.prog W 0 (fun _ => true) true Try.f3.params.toList args.toList ds p := hA0
 rw [Try.params3] at hA hval
 obtain ⟨v0, vs0, d0, ds0, p0, q0, hargs, rfl, rfl, h0, r0⟩ := trodAll_cons hA
 obtain ⟨v1, vs1, d1, ds1, p1, q1, rfl, rfl, rfl, h1, r1⟩ := trodAll_cons r0
 obtain ⟨rfl, rfl, rfl⟩ := trodAll_nil r1
 obtain rfl : args = #[v0, v1] := by cases args; simp_all
 obtain ⟨rfl, rfl⟩ := trodVars_none hV
 have lt0 : ∀ x ∈ p0, x.block < W.heap.size := by obtain ⟨m, hm⟩ := h0; exact DataW.trod_lt m _ _ _ hm
 obtain ⟨x0, e0, w0⟩ := rd_of shp_22 tr_22 (hval 0 22 v0 rfl rfl) h0
 have lt1 : ∀ x ∈ p1, x.block < W.heap.size := by obtain ⟨m, hm⟩ := h1; exact DataW.trod_lt m _ _ _ hm
 obtain ⟨x1, e1, w1⟩ := rd_of shp_22 tr_22 (hval 1 22 v1 rfl rfl) h1
 clear hA0 hval0
 refine (walk v0 x0 v1 x1 W e0 w0 e1 w1).mono fun e W' ⟨he, bel⟩ => ?_
 subst he
 exact ⟨_, rfl, _, _, _, [], _, [], hW', trodAll_mk1 (shut_bool Try.underlying4 _), (trodAll_cons_mk (Below.trod laidOut (by kernel_rfl) (of_decide_eq_true (by kernel_rfl)) h0 bel lt0) (trodAll_cons_mk (Below.trod laidOut (by kernel_rfl) (of_decide_eq_true (by kernel_rfl)) h1 bel lt1) trodAll_mk0)), rfl, bel.frame _, fun h => by cases h⟩
theorem k1 : Rows.fnProgramTreesRow.wf (OpenSpec.ofChange Rows.fnProgramTreesSpec) = true := by kernel_rfl
theorem k3 : (mapsRowed Try.prog && Try.f3.params.all (Try.prog.readableRec ·) && namedTie Try.prog Rows.fnProgramTreesRow.named Rows.fnProgramTreesSpec.vars) = true := by kernel_rfl
theorem k4 : ((Rows.fnProgramTreesRow.stops == []) && (Try.prog.stops == []) && (Rows.fnProgramTreesRow.knobs == []) && (Try.prog.stopKnobs == [])) = true := by kernel_rfl
theorem k5 : (Rows.fnProgramTreesRow.inPlace == Try.prog.inPlace 3) = true := by kernel_rfl
theorem k6 : (Rows.fnProgramTreesRow.unfollowed == Try.prog.unfollowed 3) = true := by kernel_rfl
theorem k7 : (Rows.fnProgramTreesRow.recurses == Try.prog.recurses 3) = true := by kernel_rfl
theorem k8 : (Rows.fnProgramTreesRow.named == Try.prog.varsNamed 3) = true := by kernel_rfl
theorem k9 : ((Rows.fnProgramTreesRow.maps == (Try.f3.params.toList ++ Rows.fnProgramTreesSpec.plain.varTypes Try.prog).any (Try.prog.mapsRec ·)) && (Rows.fnProgramTreesRow.ifaces == (Try.f3.params.toList ++ Rows.fnProgramTreesSpec.plain.varTypes Try.prog).any (Try.prog.ifacesRec ·)) && (Rows.fnProgramTreesRow.mapsOut == Try.prog.mapsAmong Try.f3.resultTypes.toList)) = true := by kernel_rfl
theorem k10 : ((Rows.fnProgramTreesRow.loops == (Try.f3.params.toList ++ Rows.fnProgramTreesSpec.plain.varTypes Try.prog).any (Try.prog.loopsFrom ·)) && (Rows.fnProgramTreesRow.wideKeys == (Try.f3.params.toList ++ Rows.fnProgramTreesSpec.plain.varTypes Try.prog ++ Try.f3.resultTypes.toList).any (Try.prog.wideKeysFrom ·))) = true := by kernel_rfl
theorem k11 : (Rows.fnProgramTreesSpec.vars.all (Try.prog.varReadable ·) && Try.f3.resultTypes.all (fun t => Try.prog.readableRec t && decide (t < Try.prog.types.size)) && (Rows.fnProgramTreesRow.ifacesOut == Try.f3.resultTypes.toList.any (Try.prog.ifacesRec ·)) && (Rows.fnProgramTreesRow.loopsOut == Try.f3.resultTypes.toList.any (Try.prog.loopsFrom ·)) && (Rows.fnProgramTreesRow.plainKeys == Try.prog.plainKeys) && Rows.fnProgramTreesRow.shortTexts.isNone) = true := by kernel_rfl
theorem k16 : kindsOk Try.prog Try.f3 Rows.fnProgramTreesRow = true := by kernel_rfl
theorem k17 : ((Rows.fnProgramTreesRow.veiled == (Try.f3.params.toList ++ Rows.fnProgramTreesSpec.plain.varTypes Try.prog ++ Try.f3.resultTypes.toList).any (Try.prog.veiledRec ·)) && Rows.fnProgramTreesRow.veiledFits Try.prog Try.f3.params.toList (Try.f3.params.toList ++ Rows.fnProgramTreesSpec.plain.varTypes Try.prog ++ Try.f3.resultTypes.toList)) = true := by kernel_rfl
theorem kn : Try.prog.funcNamed Rows.fnProgramTreesRow.func = some 3 := by kernel_rfl
theorem ki : Try.f3.isInstance Try.prog Rows.fnProgramTreesRow.origin Rows.fnProgramTreesRow.targs := of_decide_eq_true (by kernel_rfl)
theorem kl : (Rows.fnProgramTreesRow.lifted == Try.prog.liftsFinal) = true := lifts
theorem km : (Try.prog.make == some Rows.fnProgramTreesRow.make) = true := makes
theorem kj : joinedFacts Try.prog 3 Try.f3 Rows.fnProgramTreesSpec Rows.fnProgramTreesRow = true := joined_of k1 laidOut k3 k4 k5 k6 k7 k8 k9 k10 k11 heard enters kl km k16 k17
theorem over : Rows.fnProgramTreesRow.holds Try.pinned (OpenSpec.ofChange Rows.fnProgramTreesSpec) :=
 OpenClaim.holds_of_wide 3 Try.f3 rfl rfl rfl rfl rfl rfl rfl ⟨rfl, rfl, rfl, rfl, rfl⟩ rfl rfl rfl rfl rfl kn Try.func3 kj
  ki (by unfold Func.isWrapper; first | (rw [if_pos (by decide +kernel)]; kernel_rfl) | (rw [if_neg (by decide +kernel)]; exact ⟨rfl, rfl⟩))
  (fun os started H enc _ => lifted os started H enc)
theorem proved : Rows.FnProgramTreesSaid := over
end Go.Proofs.Ytlikagofgciflaa.fnProgramTrees
