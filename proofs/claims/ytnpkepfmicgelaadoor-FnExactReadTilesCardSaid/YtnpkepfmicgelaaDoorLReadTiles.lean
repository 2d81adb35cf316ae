/-
  The law FnExactReadTiles returns true for every input, and leaves its arguments as they were. No condition.
-/
import Derived.Test.YtnpkepfmicgelaaDoorRows
import Derived.Test.YtnpkepfmicgelaaDoorJn
import Derived.Test.YtnpkepfmicgelaaDoorTr
import Derived.Test.YtnpkepfmicgelaaDoorCon2
import Derived.Test.YtnpkepfmicgelaaDoorPRTil
import Derived.WalkKit
import Derived.ProofKit
import Derived.OpenShut
import Derived.ShutString
import Derived.ChangeOld
import Derived.Below
import Derived.Stop.LaidErr
import Derived.HandedShaped
import Derived.Shelf.Vars
import Derived.LaidMore
import Derived.Lay
import Derived.SevenTiedAt
import Derived.Test.YtnpkepfmicgelaaDoorTie
import Derived.Test.YtnpkepfmicgelaaDoorCards
namespace Go.Proofs.YtnpkepfmicgelaaDoor.fnExactReadTiles
open Go.ChangeShapes Go.WideShapes Go.ChangeAt Go.RowKit Go.Tc Go.Fn

theorem walk (v0 : Value) (x0 : ByteArray) (w : World) (hT : Rdt Tryd.prog w) (r0 : Rd nowhere w v0 x0) (w0 : Wf.wf x0) :
    Calls Tryd.prog 5 #[v0] w fun e w' => e = .returned (.bool true) ∧ Below w.heap.size w w' := by
  obtain rfl := Rd.str r0
  exact walk_of (c_laws_FnExactReadTiles nowhere w (fun _ h => h.elim) hT x0 true (law_ReadTiles x0 w0)) rfl

theorem laid_tail {P : Program} {x : String × DataW Unit} {r : List (String × DataW Unit)} {w : World} (h : laidMet P (x :: r) w) : laidMet P r w := by
  obtain ⟨ps, ⟨g, t, cs, fuel, p, q, _, _, _, _, hr, rfl⟩, hnd, hall⟩ := h
  exact ⟨q, hr, (List.nodup_append.1 hnd).2.1, fun b off hb => hall b off (List.mem_append_right _ hb)⟩
theorem laid_drop {P : Program} {w : World} : ∀ (k : Nat) (l : List (String × DataW Unit)), laidMet P l w → laidMet P (l.drop k) w
  | 0, _, h => h
  | _ + 1, [], h => h
  | k + 1, _ :: r, h => laid_drop k r (laid_tail h)
theorem laid_at : Rows.fnExactReadTilesRow.laid.drop 2 = ("internal/strconv.uint64pow10", Lib.tabData .u64 Lib.pow10Tab) :: Rows.fnExactReadTilesRow.laid.drop 3 := by kernel_rfl
theorem laid_at4 : Rows.fnExactReadTilesRow.laid.drop 5 = ("strconv.ErrSyntax", Rows.laid_strconv_ErrSyntax) :: Rows.fnExactReadTilesRow.laid.drop 6 := by kernel_rfl
theorem laid_at5 : Rows.fnExactReadTilesRow.laid.drop 4 = ("strconv.ErrRange", Rows.laid_strconv_ErrRange) :: Rows.fnExactReadTilesRow.laid.drop 5 := by kernel_rfl
theorem star : "*" ++ "errors.errorString" = "*errors.errorString" := by decide
theorem row_of (u : TypeId) (h : Tryd.prog.typeName? 3 u = some "*errors.errorString") : u = 148 :=
  typeName_ptr_named (nm := "errors.errorString") (by rw [star]; kernel_rfl) (by kernel_rfl) (by decide) u (by rw [star]; exact h)
theorem shaped_and {H : Type} {enc : TypeId × Value → H} {C : Checked} {os : Os} {f : FuncId} {fn : Func} {s : ChangeSpec} {X : World → Prop} (hX : ∀ w w' : World, w.heap = w'.heap → X w → X w')
    (own : ownKnob C.prog.godebug = none) (started : os.Started) (noInit : C.prog.inits.idxOf? f = none) (hfn : C.prog.funcs[f]? = some fn)
    (witness : ∃ (w : World) (tape : Tape) (i : Input), w.os = os ∧ (w.forCall tape i).Shaped C.prog ∧ i.vars = [] ∧ Input.okWide C.prog (w.forCall tape i) .any w.heap.size f i ∧
      ((s.pre enc C.prog fn [] false (w.forCall tape i).memory i.args ∧ X (w.forCall tape i).memory) ∧ sizedMet enc C.prog fn (OpenSpec.ofChange s) false (w.forCall tape i).memory i.args) ∧ Assume.holds {} C.prog (lone (Frame.enter C.prog f i.args .normal) [] (w.forCall tape i)))
    (contract : ∀ (W : World) (base : Nat) (args : Array Value) (ds gs : List (DataW H)) (before : List MemPlace),
      (∀ (j : Nat) t v, fn.params[j]? = some t → args[j]? = some v → Value.okWide C.prog W .any base t v) → DataW.Whole enc C.prog fn.params.toList s.vars false W args.toList ds gs before → W.ShapedOpen C.prog → X W →
      Calls C.prog f args W fun e W' => ∃ v, e = .returned v ∧ s.post enc C.prog fn false true false false W args v W') :
    ReturnsInHanded {} C os f .any (fun w args => (s.pre enc C.prog fn [] false w args ∧ X w) ∧ sizedMet enc C.prog fn (OpenSpec.ofChange s) false w args) (s.post enc C.prog fn false true false false) := by
  refine returnsInHanded_of_calls own started noInit witness ?_
  intro w tape i _ hsh _ hok hpre _
  obtain ⟨_, _, _, fn', hfn', _, _, _, _, hval⟩ := hok
  obtain rfl : fn' = fn := Option.some.inj (hfn'.symm.trans hfn)
  obtain ⟨⟨⟨ds, gs, before, hw, _⟩, hx⟩, _⟩ := hpre
  refine (contract (w.forCall tape i) w.heap.size i.args ds gs before hval (DataW.Whole.of_heap (by rfl) hw) hsh (hX _ _ (by rfl) hx)).mono fun e W' ⟨v, he, hp⟩ => ?_
  subst he
  exact ChangeSpec.post_blind hp
theorem door_met (os : Os) (args : Array Value) : laidMetH Tryd.prog Rows.fnExactReadTilesRow.laid ((World.laidAll Tryd.prog os Rows.fnExactReadTilesRow.laid).forCall (fun _ _ => 0) ⟨#[], args, []⟩).memory := by
  rw [MakeChecks.laidMetH_plain _ _ _ (by kernel_rfl)]
  exact laidMet_laidAll _ (by kernel_rfl) (by kernel_rfl)
set_option maxRecDepth 100000 in
theorem lifted (os : Os) (started : os.Started) (H : Type) (enc : TypeId × Value → H) :
    ReturnsInHanded {} Tryd.checked os 5 .any (fun w args => (Rows.fnExactReadTilesSpec.pre enc Tryd.prog Tryd.f5 [] false w args ∧ laidMetH Tryd.prog Rows.fnExactReadTilesRow.laid w) ∧ sizedMet enc Tryd.prog Tryd.f5 (OpenSpec.ofChange Rows.fnExactReadTilesSpec) false w args) (Rows.fnExactReadTilesSpec.post enc Tryd.prog Tryd.f5 false true false false) := by
  refine shaped_and (C := Tryd.checked) (X := fun w => laidMetH Tryd.prog Rows.fnExactReadTilesRow.laid w) (fun _ _ hh h => h.of_heap hh) own started (by kernel_rfl) Tryd.func5
    (ChangeSpec.witness_shaped (enc := enc) (C := Tryd.checked) (os := os) (X := fun w _ => laidMetH Tryd.prog Rows.fnExactReadTilesRow.laid w) false (World.laidAll Tryd.prog os Rows.fnExactReadTilesRow.laid) #[.string ⟨#[]⟩] 8 (World.laidAll_os _ _ _) (World.shaped_of_ZipB (by kernel_rfl) (by kernel_rfl)) (by kernel_rfl) (by kernel_rfl) (by kernel_rfl) (door_met os _)) ?_
  intro W base args ds gs before hval0 hW hsh hL
  have hTab : Tab Tryd.prog W := by
    have hL := hL
    rw [MakeChecks.laidMetH_plain _ _ _ (by kernel_rfl)] at hL
    have hd := laid_drop 2 _ hL
    rw [laid_at] at hd
    exact Lib.tabIs_of_head (g := 1) (t := 125) (e := 113) (n := 20) (by kernel_rfl) (by kernel_rfl) (by kernel_rfl) (by kernel_rfl) (by kernel_rfl) (by kernel_rfl) hd
  have hMx : Mxl Tryd.prog W := ⟨0, by kernel_rfl, Go.Proofs.cell_of_shapedOpen_int (t := 3) (zero := #[.int .i64 0]) hsh (of_decide_eq_true (by kernel_rfl)) (by kernel_rfl) rfl (by kernel_rfl) (by kernel_rfl) (by kernel_rfl)⟩
  have hEv4 : EvV Tryd.prog "strconv.ErrSyntax" W := by
    have hL := hL
    rw [MakeChecks.laidMetH_plain _ _ _ (by kernel_rfl)] at hL
    have hd := laid_drop 5 _ hL
    rw [laid_at4] at hd
    obtain ⟨a, _, hv, _⟩ := laid_sentinel (g := 4) (ti := 75) (tp := 148) (te := 150) (ts := 9) hd (by kernel_rfl) (by kernel_rfl) Tryd.underlying75 row_of Tryd.underlying148 Tryd.underlying150 rfl rfl Tryd.underlying9 (by kernel_rfl) (by kernel_rfl)
    have hc := World.var?_cell (show Tryd.prog.globalNamed "strconv.ErrSyntax" = some 4 by kernel_rfl) hv 0
    exact ⟨4, by kernel_rfl, _, _, by simpa using hc⟩
  have hEv5 : EvV Tryd.prog "strconv.ErrRange" W := by
    have hL := hL
    rw [MakeChecks.laidMetH_plain _ _ _ (by kernel_rfl)] at hL
    have hd := laid_drop 4 _ hL
    rw [laid_at5] at hd
    obtain ⟨a, _, hv, _⟩ := laid_sentinel (g := 5) (ti := 75) (tp := 148) (te := 150) (ts := 9) hd (by kernel_rfl) (by kernel_rfl) Tryd.underlying75 row_of Tryd.underlying148 Tryd.underlying150 rfl rfl Tryd.underlying9 (by kernel_rfl) (by kernel_rfl)
    have hc := World.var?_cell (show Tryd.prog.globalNamed "strconv.ErrRange" = some 5 by kernel_rfl) hv 0
    exact ⟨5, by kernel_rfl, _, _, by simpa using hc⟩
  have hT : Rdt Tryd.prog W := ⟨⟨hMx, hTab⟩, hEv4, hEv5⟩
  have hval : ∀ (j : Nat) t v, Tryd.f5.params[j]? = some t → args[j]? = some v → Value.okWide Tryd.prog W .any base t v := hval0
  have hW' := hW
  obtain ⟨p, q, hA0, hV, rfl, hfz, hnd⟩ := hW
  have hA : DataW.TrodAll enc Tryd.prog W 0 (fun _ => true) true Tryd.f5.params.toList args.toList ds p := hA0
  rw [Tryd.params5] at hA hval
  obtain ⟨v0, vs0, d0, ds0, p0, q0, hargs, rfl, rfl, h0, r0⟩ := trodAll_cons hA
  obtain ⟨rfl, rfl, rfl⟩ := trodAll_nil r0
  obtain rfl : args = #[v0] := by cases args; simp_all
  obtain ⟨rfl, rfl⟩ := trodVars_none hV
  have lt0 : ∀ x ∈ p0, x.block < W.heap.size := by obtain ⟨m, hm⟩ := h0; exact DataW.trod_lt m _ _ _ hm
  obtain ⟨x0, e0, w0⟩ := rd_of shp_9 tr_9 (hval 0 9 v0 rfl rfl) h0
  clear hA0 hval0
  refine (walk v0 x0 W hT e0 w0).mono fun e W' ⟨he, bel⟩ => ?_
  subst he
  exact ⟨_, rfl, _, _, _, [], _, [], hW', trodAll_mk1 (shut_bool Tryd.underlying4 _), (trodAll_cons_mk (Below.trod laidOut (by kernel_rfl) (of_decide_eq_true (by kernel_rfl)) h0 bel lt0) trodAll_mk0), rfl, bel.frame _, fun h => by cases h⟩

theorem k1 : Rows.fnExactReadTilesRow.wf (OpenSpec.ofChange Rows.fnExactReadTilesSpec) = true := by kernel_rfl
theorem k3 : (mapsRowed Tryd.prog && Tryd.f5.params.all (Tryd.prog.readableRec ·) && namedTie Tryd.prog Rows.fnExactReadTilesRow.named Rows.fnExactReadTilesSpec.vars) = true := by kernel_rfl
theorem k4 : ((Rows.fnExactReadTilesRow.stops == []) && (Tryd.prog.stops == []) && (Rows.fnExactReadTilesRow.knobs == []) && (Tryd.prog.stopKnobs == [])) = true := by kernel_rfl
theorem k5 : (Rows.fnExactReadTilesRow.inPlace == Tryd.prog.inPlace 5) = true := by kernel_rfl
theorem k6 : (Rows.fnExactReadTilesRow.unfollowed == Tryd.prog.unfollowed 5) = true := by kernel_rfl
theorem k7 : (Rows.fnExactReadTilesRow.recurses == Tryd.prog.recurses 5) = true := by kernel_rfl
theorem k8 : (Rows.fnExactReadTilesRow.named == Tryd.prog.varsNamed 5) = true := by kernel_rfl
theorem k9 : ((Rows.fnExactReadTilesRow.maps == (Tryd.f5.params.toList ++ Rows.fnExactReadTilesSpec.plain.varTypes Tryd.prog).any (Tryd.prog.mapsRec ·)) && (Rows.fnExactReadTilesRow.ifaces == (Tryd.f5.params.toList ++ Rows.fnExactReadTilesSpec.plain.varTypes Tryd.prog).any (Tryd.prog.ifacesRec ·)) && (Rows.fnExactReadTilesRow.mapsOut == Tryd.prog.mapsAmong Tryd.f5.resultTypes.toList)) = true := by kernel_rfl
theorem k10 : ((Rows.fnExactReadTilesRow.loops == (Tryd.f5.params.toList ++ Rows.fnExactReadTilesSpec.plain.varTypes Tryd.prog).any (Tryd.prog.loopsFrom ·)) && (Rows.fnExactReadTilesRow.wideKeys == (Tryd.f5.params.toList ++ Rows.fnExactReadTilesSpec.plain.varTypes Tryd.prog ++ Tryd.f5.resultTypes.toList).any (Tryd.prog.wideKeysFrom ·))) = true := by kernel_rfl
theorem k11 : (Rows.fnExactReadTilesSpec.vars.all (Tryd.prog.varReadable ·) && Tryd.f5.resultTypes.all (fun t => Tryd.prog.readableRec t && decide (t < Tryd.prog.types.size)) && (Rows.fnExactReadTilesRow.ifacesOut == Tryd.f5.resultTypes.toList.any (Tryd.prog.ifacesRec ·)) && (Rows.fnExactReadTilesRow.loopsOut == Tryd.f5.resultTypes.toList.any (Tryd.prog.loopsFrom ·)) && (Rows.fnExactReadTilesRow.plainKeys == Tryd.prog.plainKeys) && Rows.fnExactReadTilesRow.shortTexts.isNone) = true := by kernel_rfl
theorem k16 : kindsOk Tryd.prog Tryd.f5 Rows.fnExactReadTilesRow = true := by kernel_rfl
theorem k17 : ((Rows.fnExactReadTilesRow.veiled == (Tryd.f5.params.toList ++ Rows.fnExactReadTilesSpec.plain.varTypes Tryd.prog ++ Tryd.f5.resultTypes.toList).any (Tryd.prog.veiledRec ·)) && Rows.fnExactReadTilesRow.veiledFits Tryd.prog Tryd.f5.params.toList (Tryd.f5.params.toList ++ Rows.fnExactReadTilesSpec.plain.varTypes Tryd.prog ++ Tryd.f5.resultTypes.toList)) = true := by kernel_rfl
theorem kn : Tryd.prog.funcNamed Rows.fnExactReadTilesRow.func = some 5 := by kernel_rfl
theorem ki : Tryd.f5.isInstance Tryd.prog Rows.fnExactReadTilesRow.origin Rows.fnExactReadTilesRow.targs := of_decide_eq_true (by kernel_rfl)
theorem kl : (Rows.fnExactReadTilesRow.lifted == Tryd.prog.liftsFinal) = true := by rw [show Rows.fnExactReadTilesRow.lifted = Rows.fnExactTilesTextRow.lifted from rfl]; exact lifts
theorem km : (Tryd.prog.make == some Rows.fnExactReadTilesRow.make) = true := by rw [show Rows.fnExactReadTilesRow.make = Rows.fnExactTilesTextRow.make from rfl]; exact makes
theorem kj : joinedFacts Tryd.prog 5 Tryd.f5 Rows.fnExactReadTilesSpec Rows.fnExactReadTilesRow = true := joined_of k1 laidOut k3 k4 k5 k6 k7 k8 k9 k10 k11 heard enters kl km k16 k17
theorem over : Rows.fnExactReadTilesRow.holds Tryd.pinned (OpenSpec.ofChange Rows.fnExactReadTilesSpec) :=
  OpenClaim.holds_of_wide 5 Tryd.f5 rfl rfl rfl rfl rfl rfl rfl ⟨rfl, rfl, rfl, rfl, rfl⟩ rfl rfl rfl rfl rfl kn Tryd.func5 kj
    ki (by unfold Func.isWrapper; first | (rw [if_pos (by decide +kernel)]; kernel_rfl) | (rw [if_neg (by decide +kernel)]; exact ⟨rfl, rfl⟩))
    (fun os started H enc _ => lifted os started H enc)

/-- The tied card: what the row lists is what the program's text lays. -/
theorem proved : Rows.FnExactReadTilesCardSaid :=
  Claim7.holds_tied_plain_at .later [] [.data, .data, .data, .data, .sentinel, .sentinel, .pinned] true (true, "14ff623d6de23f21fafe20b2efb482532228627d1f61b5357cac68641a5fde22") true over (fun _ h => by cases h) (by kernel_rfl) (fun _ h => by cases h) fnExactReadTiles_row_tie rfl ⟨rfl, rfl⟩ (by kernel_rfl) rfl
    (fun f fn hf hfn => by
      obtain rfl : f = 5 := Option.some.inj (kn.symm.trans hf) |>.symm
      obtain rfl : fn = Tryd.f5 := (Option.some.inj (Tryd.func5.symm.trans hfn)).symm
      exact ⟨by kernel_rfl, fun j t ht => by
        rw [Tryd.params5] at ht
        have hm : t ∈ [9] := by simpa using Array.mem_of_getElem? ht
        have hall : ([9].all fun u => !Tryd.prog.wantsStandIn u) = true := by kernel_rfl
        exact (show Tryd.prog.wantsStandIn t = false by simpa using List.all_eq_true.1 hall t hm)⟩)
    (by kernel_rfl)
end Go.Proofs.YtnpkepfmicgelaaDoor.fnExactReadTiles
