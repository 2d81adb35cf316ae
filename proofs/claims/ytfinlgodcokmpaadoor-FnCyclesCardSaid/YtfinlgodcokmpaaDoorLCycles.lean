/-
  The law FnCycles returns true for every input, and leaves its arguments as they were. No condition.
-/
import Derived.Test.YtfinlgodcokmpaaDoorRows
import Derived.Test.YtfinlgodcokmpaaDoorJn
import Derived.Test.YtfinlgodcokmpaaDoorTr
import Derived.Test.YtfinlgodcokmpaaDoorCon5
import Derived.Test.YtfinlgodcokmpaaDoorPCyc
import Derived.WalkKit
import Derived.ProofKit
import Derived.OpenShut
import Derived.ShutString
import Derived.ChangeOld
import Derived.Below
import Derived.LaidMore
import Derived.SevenTiedAt
import Derived.Test.YtfinlgodcokmpaaDoorTie
import Derived.Test.YtfinlgodcokmpaaDoorCards
namespace Go.Proofs.YtfinlgodcokmpaaDoor.fnCycles
open Go.ChangeShapes Go.WideShapes Go.ChangeAt Go.RowKit Go.Tc Go.Fn

theorem walk (v0 : Value) (x0 : (List (Ik .u8))) (v1 : Value) (x1 : (List (Ik .u8))) (w : World) (r0 : Rd nowhere w v0 x0) (w0 : Wf.wf x0) (r1 : Rd nowhere w v1 x1) (w1 : Wf.wf x1) :
    Calls Tryd.prog 3 #[v0, v1] w fun e w' => e = .returned (.bool true) ∧ Below w.heap.size w w' := by
  exact walk_of (c_laws_FnCycles nowhere w (fun _ h => h.elim) v0 x0 r0 v1 x1 r1 true (law_Cycles x0 x1 w0 w1)) rfl

theorem door_met (os : Os) (args : Array Value) : laidMetH Tryd.prog Rows.fnCyclesRow.laid ((World.doorLaid Tryd.prog 400 os).forCall (fun _ _ => 0) ⟨#[], args, []⟩).memory :=
  laidMetH_of_parts3 (fuel := 8) (laidMet_of_run' 8 (by kernel_rfl) (by kernel_rfl)) (by kernel_rfl) (by kernel_rfl)
set_option maxRecDepth 100000 in
theorem lifted (os : Os) (started : os.Started) (H : Type) (enc : TypeId × Value → H) :
    ReturnsInHanded {} Tryd.checked os 3 .any (fun w args => (Rows.fnCyclesSpec.pre enc Tryd.prog Tryd.f3 [] false w args ∧ laidMetH Tryd.prog Rows.fnCyclesRow.laid w) ∧ sizedMet enc Tryd.prog Tryd.f3 (OpenSpec.ofChange Rows.fnCyclesSpec) false w args) (Rows.fnCyclesSpec.post enc Tryd.prog Tryd.f3 false true false false) := by
  refine returnsInHanded_of_change_and (C := Tryd.checked) (X := fun w _ => laidMetH Tryd.prog Rows.fnCyclesRow.laid w) (fun _ _ _ hh h => h.of_heap hh) own started (by kernel_rfl) Tryd.func3
    (ChangeSpec.witness_shaped (enc := enc) (C := Tryd.checked) (os := os) (X := fun w _ => laidMetH Tryd.prog Rows.fnCyclesRow.laid w) false (World.doorLaid Tryd.prog 400 os) #[.slice none 0 0, .slice none 0 0] 8 rfl (World.shaped_of_RefB (by kernel_rfl) (by kernel_rfl)) (by kernel_rfl) (by kernel_rfl) (by kernel_rfl) (door_met os _)) ?_
  intro W base args ds gs before hval0 hW _ _ _ _
  have hval : ∀ (j : Nat) t v, Tryd.f3.params[j]? = some t → args[j]? = some v → Value.okWide Tryd.prog W .any base t v := hval0
  have hW' := hW
  obtain ⟨p, q, hA0, hV, rfl, hfz, hnd⟩ := hW
  have hA : DataW.TrodAll enc Tryd.prog W 0 (fun _ => true) true Tryd.f3.params.toList args.toList ds p := hA0
  rw [Tryd.params3] at hA hval
  obtain ⟨v0, vs0, d0, ds0, p0, q0, hargs, rfl, rfl, h0, r0⟩ := trodAll_cons hA
  obtain ⟨v1, vs1, d1, ds1, p1, q1, rfl, rfl, rfl, h1, r1⟩ := trodAll_cons r0
  obtain ⟨rfl, rfl, rfl⟩ := trodAll_nil r1
  obtain rfl : args = #[v0, v1] := by cases args; simp_all
  obtain ⟨rfl, rfl⟩ := trodVars_none hV
  have lt0 : ∀ x ∈ p0, x.block < W.heap.size := by obtain ⟨m, hm⟩ := h0; exact DataW.trod_lt m _ _ _ hm
  obtain ⟨x0, e0, w0⟩ := rd_of shp_22 tr_22 (hval 0 22 v0 rfl rfl) h0
  have lt1 : ∀ x ∈ p1, x.block < W.heap.size := by obtain ⟨m, hm⟩ := h1; exact DataW.trod_lt m _ _ _ hm
  obtain ⟨x1, e1, w1⟩ := rd_of shp_22 tr_22 (hval 1 22 v1 rfl rfl) h1
  clear hA0 hval0
  refine (walk v0 x0 v1 x1 W e0 w0 e1 w1).mono fun e W' ⟨he, bel⟩ => ?_
  subst he
  exact ⟨_, rfl, _, _, _, [], _, [], hW', trodAll_mk1 (shut_bool Tryd.underlying4 _), (trodAll_cons_mk (Below.trod laidOut (by kernel_rfl) (of_decide_eq_true (by kernel_rfl)) h0 bel lt0) (trodAll_cons_mk (Below.trod laidOut (by kernel_rfl) (of_decide_eq_true (by kernel_rfl)) h1 bel lt1) trodAll_mk0)), rfl, bel.frame _, fun h => by cases h⟩

theorem k1 : Rows.fnCyclesRow.wf (OpenSpec.ofChange Rows.fnCyclesSpec) = true := by kernel_rfl
theorem k3 : (mapsRowed Tryd.prog && Tryd.f3.params.all (Tryd.prog.readableRec ·) && namedTie Tryd.prog Rows.fnCyclesRow.named Rows.fnCyclesSpec.vars) = true := by kernel_rfl
theorem k4 : ((Rows.fnCyclesRow.stops == []) && (Tryd.prog.stops == []) && (Rows.fnCyclesRow.knobs == []) && (Tryd.prog.stopKnobs == [])) = true := by kernel_rfl
theorem k5 : (Rows.fnCyclesRow.inPlace == Tryd.prog.inPlace 3) = true := by kernel_rfl
theorem k6 : (Rows.fnCyclesRow.unfollowed == Tryd.prog.unfollowed 3) = true := by kernel_rfl
theorem k7 : (Rows.fnCyclesRow.recurses == Tryd.prog.recurses 3) = true := by kernel_rfl
theorem k8 : (Rows.fnCyclesRow.named == Tryd.prog.varsNamed 3) = true := by kernel_rfl
theorem k9 : ((Rows.fnCyclesRow.maps == (Tryd.f3.params.toList ++ Rows.fnCyclesSpec.plain.varTypes Tryd.prog).any (Tryd.prog.mapsRec ·)) && (Rows.fnCyclesRow.ifaces == (Tryd.f3.params.toList ++ Rows.fnCyclesSpec.plain.varTypes Tryd.prog).any (Tryd.prog.ifacesRec ·)) && (Rows.fnCyclesRow.mapsOut == Tryd.prog.mapsAmong Tryd.f3.resultTypes.toList)) = true := by kernel_rfl
theorem k10 : ((Rows.fnCyclesRow.loops == (Tryd.f3.params.toList ++ Rows.fnCyclesSpec.plain.varTypes Tryd.prog).any (Tryd.prog.loopsFrom ·)) && (Rows.fnCyclesRow.wideKeys == (Tryd.f3.params.toList ++ Rows.fnCyclesSpec.plain.varTypes Tryd.prog ++ Tryd.f3.resultTypes.toList).any (Tryd.prog.wideKeysFrom ·))) = true := by kernel_rfl
theorem k11 : (Rows.fnCyclesSpec.vars.all (Tryd.prog.varReadable ·) && Tryd.f3.resultTypes.all (fun t => Tryd.prog.readableRec t && decide (t < Tryd.prog.types.size)) && (Rows.fnCyclesRow.ifacesOut == Tryd.f3.resultTypes.toList.any (Tryd.prog.ifacesRec ·)) && (Rows.fnCyclesRow.loopsOut == Tryd.f3.resultTypes.toList.any (Tryd.prog.loopsFrom ·)) && (Rows.fnCyclesRow.plainKeys == Tryd.prog.plainKeys) && Rows.fnCyclesRow.shortTexts.isNone) = true := by kernel_rfl
theorem k16 : kindsOk Tryd.prog Tryd.f3 Rows.fnCyclesRow = true := by kernel_rfl
theorem k17 : ((Rows.fnCyclesRow.veiled == (Tryd.f3.params.toList ++ Rows.fnCyclesSpec.plain.varTypes Tryd.prog ++ Tryd.f3.resultTypes.toList).any (Tryd.prog.veiledRec ·)) && Rows.fnCyclesRow.veiledFits Tryd.prog Tryd.f3.params.toList (Tryd.f3.params.toList ++ Rows.fnCyclesSpec.plain.varTypes Tryd.prog ++ Tryd.f3.resultTypes.toList)) = true := by kernel_rfl
theorem kn : Tryd.prog.funcNamed Rows.fnCyclesRow.func = some 3 := by kernel_rfl
theorem ki : Tryd.f3.isInstance Tryd.prog Rows.fnCyclesRow.origin Rows.fnCyclesRow.targs := of_decide_eq_true (by kernel_rfl)
theorem kl : (Rows.fnCyclesRow.lifted == Tryd.prog.liftsFinal) = true := lifts
theorem km : (Tryd.prog.make == some Rows.fnCyclesRow.make) = true := makes
theorem kj : joinedFacts Tryd.prog 3 Tryd.f3 Rows.fnCyclesSpec Rows.fnCyclesRow = true := joined_of k1 laidOut k3 k4 k5 k6 k7 k8 k9 k10 k11 heard enters kl km k16 k17
theorem over : Rows.fnCyclesRow.holds Tryd.pinned (OpenSpec.ofChange Rows.fnCyclesSpec) :=
  OpenClaim.holds_of_wide 3 Tryd.f3 rfl rfl rfl rfl rfl rfl rfl ⟨rfl, rfl, rfl, rfl, rfl⟩ rfl rfl rfl rfl rfl kn Tryd.func3 kj
    ki (by unfold Func.isWrapper; first | (rw [if_pos (by decide +kernel)]; kernel_rfl) | (rw [if_neg (by decide +kernel)]; exact ⟨rfl, rfl⟩))
    (fun os started H enc _ => lifted os started H enc)

/-- The tied card: what the row lists is what the program's text lays. -/
theorem proved : Rows.FnCyclesCardSaid :=
  Claim7.holds_tied_plain_at .later [] [.data, .data, .data] true (true, "92db26d6faff87dc38461eacc260718d98ae9c214a611a56f4557d736cf499af") false over (fun _ h => by cases h) (by kernel_rfl) (fun _ h => by cases h) fnCycles_row_tie rfl ⟨rfl, rfl⟩ (by kernel_rfl) rfl
    (fun f fn hf hfn => by
      obtain rfl : f = 3 := Option.some.inj (kn.symm.trans hf) |>.symm
      obtain rfl : fn = Tryd.f3 := (Option.some.inj (Tryd.func3.symm.trans hfn)).symm
      exact ⟨by kernel_rfl, fun j t ht => by
        rw [Tryd.params3] at ht
        have hm : t ∈ [22] := by simpa using Array.mem_of_getElem? ht
        have hall : ([22].all fun u => !Tryd.prog.wantsStandIn u) = true := by kernel_rfl
        exact (show Tryd.prog.wantsStandIn t = false by simpa using List.all_eq_true.1 hall t hm)⟩)
    (by kernel_rfl)
end Go.Proofs.YtfinlgodcokmpaaDoor.fnCycles
