/-
  The law FnExactTilesText returns true for every input, and leaves its arguments as they were. No condition.
-/
import Derived.Test.YtnpkepfmicgelaaDoorRows
import Derived.Test.YtnpkepfmicgelaaDoorJn
import Derived.Test.YtnpkepfmicgelaaDoorTr
import Derived.Test.YtnpkepfmicgelaaDoorCon2
import Derived.Test.YtnpkepfmicgelaaDoorPTTxt
import Derived.WalkKit
import Derived.ProofKit
import Derived.OpenShut
import Derived.ShutString
import Derived.ChangeOld
import Derived.Below
import Derived.LaidMore
import Derived.SevenTiedAt
import Derived.Test.YtnpkepfmicgelaaDoorTie
import Derived.Test.YtnpkepfmicgelaaDoorCards
namespace Go.Proofs.YtnpkepfmicgelaaDoor.fnExactTilesText
open Go.ChangeShapes Go.WideShapes Go.ChangeAt Go.RowKit Go.Tc Go.Fn

theorem walk (v0 : Value) (x0 : (List GTile)) (w : World) (hT : Tab Tryd.prog w) (r0 : Rd nowhere w v0 x0) (w0 : Wf.wf x0) :
    Calls Tryd.prog 3 #[v0] w fun e w' => e = .returned (.bool true) ∧ Below w.heap.size w w' := by
  exact walk_of (c_laws_FnExactTilesText nowhere w (fun _ h => h.elim) hT v0 x0 r0 true (law_TilesText x0 w0)) rfl

theorem laid_tail {P : Program} {x : String × DataW Unit} {r : List (String × DataW Unit)} {w : World} (h : laidMet P (x :: r) w) : laidMet P r w := by
  obtain ⟨ps, ⟨g, t, cs, fuel, p, q, _, _, _, _, hr, rfl⟩, hnd, hall⟩ := h
  exact ⟨q, hr, (List.nodup_append.1 hnd).2.1, fun b off hb => hall b off (List.mem_append_right _ hb)⟩
theorem laid_drop {P : Program} {w : World} : ∀ (k : Nat) (l : List (String × DataW Unit)), laidMet P l w → laidMet P (l.drop k) w
  | 0, _, h => h
  | _ + 1, [], h => h
  | k + 1, _ :: r, h => laid_drop k r (laid_tail h)
theorem laid_at : Rows.fnExactTilesTextRow.laid.drop 2 = ("internal/strconv.uint64pow10", Lib.tabData .u64 Lib.pow10Tab) :: Rows.fnExactTilesTextRow.laid.drop 3 := by kernel_rfl
theorem door_met (os : Os) (args : Array Value) : laidMetH Tryd.prog Rows.fnExactTilesTextRow.laid ((World.doorLaid Tryd.prog 400 os).forCall (fun _ _ => 0) ⟨#[], args, []⟩).memory :=
  laidMetH_of_parts3 (fuel := 8) (laidMet_of_run' 8 (by kernel_rfl) (by kernel_rfl)) (by kernel_rfl) (by kernel_rfl)
set_option maxRecDepth 100000 in
theorem lifted (os : Os) (started : os.Started) (H : Type) (enc : TypeId × Value → H) :
    ReturnsInHanded {} Tryd.checked os 3 .any (fun w args => (Rows.fnExactTilesTextSpec.pre enc Tryd.prog Tryd.f3 [] false w args ∧ laidMetH Tryd.prog Rows.fnExactTilesTextRow.laid w) ∧ sizedMet enc Tryd.prog Tryd.f3 (OpenSpec.ofChange Rows.fnExactTilesTextSpec) false w args) (Rows.fnExactTilesTextSpec.post enc Tryd.prog Tryd.f3 false true false false) := by
  refine returnsInHanded_of_change_and (C := Tryd.checked) (X := fun w _ => laidMetH Tryd.prog Rows.fnExactTilesTextRow.laid w) (fun _ _ _ hh h => h.of_heap hh) own started (by kernel_rfl) Tryd.func3
    (ChangeSpec.witness_shaped (enc := enc) (C := Tryd.checked) (os := os) (X := fun w _ => laidMetH Tryd.prog Rows.fnExactTilesTextRow.laid w) false (World.doorLaid Tryd.prog 400 os) #[.slice none 0 0] 8 rfl (World.shaped_of_RefB (by kernel_rfl) (by kernel_rfl)) (by kernel_rfl) (by kernel_rfl) (by kernel_rfl) (door_met os _)) ?_
  intro W base args ds gs before hval0 hW _ _ hL _
  have hT : Tab Tryd.prog W := by
    rw [MakeChecks.laidMetH_plain _ _ _ (by kernel_rfl)] at hL
    have hd := laid_drop 2 _ hL
    rw [laid_at] at hd
    exact Lib.tabIs_of_head (g := 1) (t := 125) (e := 113) (n := 20) (by kernel_rfl) (by kernel_rfl) (by kernel_rfl) (by kernel_rfl) (by kernel_rfl) (by kernel_rfl) hd
  have hval : ∀ (j : Nat) t v, Tryd.f3.params[j]? = some t → args[j]? = some v → Value.okWide Tryd.prog W .any base t v := hval0
  have hW' := hW
  obtain ⟨p, q, hA0, hV, rfl, hfz, hnd⟩ := hW
  have hA : DataW.TrodAll enc Tryd.prog W 0 (fun _ => true) true Tryd.f3.params.toList args.toList ds p := hA0
  rw [Tryd.params3] at hA hval
  obtain ⟨v0, vs0, d0, ds0, p0, q0, hargs, rfl, rfl, h0, r0⟩ := trodAll_cons hA
  obtain ⟨rfl, rfl, rfl⟩ := trodAll_nil r0
  obtain rfl : args = #[v0] := by cases args; simp_all
  obtain ⟨rfl, rfl⟩ := trodVars_none hV
  have lt0 : ∀ x ∈ p0, x.block < W.heap.size := by obtain ⟨m, hm⟩ := h0; exact DataW.trod_lt m _ _ _ hm
  obtain ⟨x0, e0, w0⟩ := rd_of shp_22 tr_22 (hval 0 22 v0 rfl rfl) h0
  clear hA0 hval0
  refine (walk v0 x0 W hT e0 w0).mono fun e W' ⟨he, bel⟩ => ?_
  subst he
  exact ⟨_, rfl, _, _, _, [], _, [], hW', trodAll_mk1 (shut_bool Tryd.underlying4 _), (trodAll_cons_mk (Below.trod laidOut (by kernel_rfl) (of_decide_eq_true (by kernel_rfl)) h0 bel lt0) trodAll_mk0), rfl, bel.frame _, fun h => by cases h⟩

theorem k1 : Rows.fnExactTilesTextRow.wf (OpenSpec.ofChange Rows.fnExactTilesTextSpec) = true := by kernel_rfl
theorem k3 : (mapsRowed Tryd.prog && Tryd.f3.params.all (Tryd.prog.readableRec ·) && namedTie Tryd.prog Rows.fnExactTilesTextRow.named Rows.fnExactTilesTextSpec.vars) = true := by kernel_rfl
theorem k4 : ((Rows.fnExactTilesTextRow.stops == []) && (Tryd.prog.stops == []) && (Rows.fnExactTilesTextRow.knobs == []) && (Tryd.prog.stopKnobs == [])) = true := by kernel_rfl
theorem k5 : (Rows.fnExactTilesTextRow.inPlace == Tryd.prog.inPlace 3) = true := by kernel_rfl
theorem k6 : (Rows.fnExactTilesTextRow.unfollowed == Tryd.prog.unfollowed 3) = true := by kernel_rfl
theorem k7 : (Rows.fnExactTilesTextRow.recurses == Tryd.prog.recurses 3) = true := by kernel_rfl
theorem k8 : (Rows.fnExactTilesTextRow.named == Tryd.prog.varsNamed 3) = true := by kernel_rfl
theorem k9 : ((Rows.fnExactTilesTextRow.maps == (Tryd.f3.params.toList ++ Rows.fnExactTilesTextSpec.plain.varTypes Tryd.prog).any (Tryd.prog.mapsRec ·)) && (Rows.fnExactTilesTextRow.ifaces == (Tryd.f3.params.toList ++ Rows.fnExactTilesTextSpec.plain.varTypes Tryd.prog).any (Tryd.prog.ifacesRec ·)) && (Rows.fnExactTilesTextRow.mapsOut == Tryd.prog.mapsAmong Tryd.f3.resultTypes.toList)) = true := by kernel_rfl
theorem k10 : ((Rows.fnExactTilesTextRow.loops == (Tryd.f3.params.toList ++ Rows.fnExactTilesTextSpec.plain.varTypes Tryd.prog).any (Tryd.prog.loopsFrom ·)) && (Rows.fnExactTilesTextRow.wideKeys == (Tryd.f3.params.toList ++ Rows.fnExactTilesTextSpec.plain.varTypes Tryd.prog ++ Tryd.f3.resultTypes.toList).any (Tryd.prog.wideKeysFrom ·))) = true := by kernel_rfl
theorem k11 : (Rows.fnExactTilesTextSpec.vars.all (Tryd.prog.varReadable ·) && Tryd.f3.resultTypes.all (fun t => Tryd.prog.readableRec t && decide (t < Tryd.prog.types.size)) && (Rows.fnExactTilesTextRow.ifacesOut == Tryd.f3.resultTypes.toList.any (Tryd.prog.ifacesRec ·)) && (Rows.fnExactTilesTextRow.loopsOut == Tryd.f3.resultTypes.toList.any (Tryd.prog.loopsFrom ·)) && (Rows.fnExactTilesTextRow.plainKeys == Tryd.prog.plainKeys) && Rows.fnExactTilesTextRow.shortTexts.isNone) = true := by kernel_rfl
theorem k16 : kindsOk Tryd.prog Tryd.f3 Rows.fnExactTilesTextRow = true := by kernel_rfl
theorem k17 : ((Rows.fnExactTilesTextRow.veiled == (Tryd.f3.params.toList ++ Rows.fnExactTilesTextSpec.plain.varTypes Tryd.prog ++ Tryd.f3.resultTypes.toList).any (Tryd.prog.veiledRec ·)) && Rows.fnExactTilesTextRow.veiledFits Tryd.prog Tryd.f3.params.toList (Tryd.f3.params.toList ++ Rows.fnExactTilesTextSpec.plain.varTypes Tryd.prog ++ Tryd.f3.resultTypes.toList)) = true := by kernel_rfl
theorem kn : Tryd.prog.funcNamed Rows.fnExactTilesTextRow.func = some 3 := by kernel_rfl
theorem ki : Tryd.f3.isInstance Tryd.prog Rows.fnExactTilesTextRow.origin Rows.fnExactTilesTextRow.targs := of_decide_eq_true (by kernel_rfl)
theorem kl : (Rows.fnExactTilesTextRow.lifted == Tryd.prog.liftsFinal) = true := lifts
theorem km : (Tryd.prog.make == some Rows.fnExactTilesTextRow.make) = true := makes
theorem kj : joinedFacts Tryd.prog 3 Tryd.f3 Rows.fnExactTilesTextSpec Rows.fnExactTilesTextRow = true := joined_of k1 laidOut k3 k4 k5 k6 k7 k8 k9 k10 k11 heard enters kl km k16 k17
theorem over : Rows.fnExactTilesTextRow.holds Tryd.pinned (OpenSpec.ofChange Rows.fnExactTilesTextSpec) :=
  OpenClaim.holds_of_wide 3 Tryd.f3 rfl rfl rfl rfl rfl rfl rfl ⟨rfl, rfl, rfl, rfl, rfl⟩ rfl rfl rfl rfl rfl kn Tryd.func3 kj
    ki (by unfold Func.isWrapper; first | (rw [if_pos (by decide +kernel)]; kernel_rfl) | (rw [if_neg (by decide +kernel)]; exact ⟨rfl, rfl⟩))
    (fun os started H enc _ => lifted os started H enc)

/-- The tied card: what the row lists is what the program's text lays. -/
theorem proved : Rows.FnExactTilesTextCardSaid :=
  Claim7.holds_tied_plain_at .later [] [.data, .data, .data] true (true, "14ff623d6de23f21fafe20b2efb482532228627d1f61b5357cac68641a5fde22") true over (fun _ h => by cases h) (by kernel_rfl) (fun _ h => by cases h) fnExactTilesText_row_tie rfl ⟨rfl, rfl⟩ (by kernel_rfl) rfl
    (fun f fn hf hfn => by
      obtain rfl : f = 3 := Option.some.inj (kn.symm.trans hf) |>.symm
      obtain rfl : fn = Tryd.f3 := (Option.some.inj (Tryd.func3.symm.trans hfn)).symm
      exact ⟨by kernel_rfl, fun j t ht => by
        rw [Tryd.params3] at ht
        have hm : t ∈ [22] := by simpa using Array.mem_of_getElem? ht
        have hall : ([22].all fun u => !Tryd.prog.wantsStandIn u) = true := by kernel_rfl
        exact (show Tryd.prog.wantsStandIn t = false by simpa using List.all_eq_true.1 hall t hm)⟩)
    (by kernel_rfl)
end Go.Proofs.YtnpkepfmicgelaaDoor.fnExactTilesText
