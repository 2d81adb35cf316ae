/-
  The law FnExactSolveDominoes returns true for every input, and leaves its arguments as they were. No condition.
-/
import Derived.Test.YtabpcmbohmodnaaDoorRows
import Derived.Test.YtabpcmbohmodnaaDoorJn
import Derived.Test.YtabpcmbohmodnaaDoorTr
import Derived.Test.YtabpcmbohmodnaaDoorCon5
import Derived.Test.YtabpcmbohmodnaaDoorPDSoL
import Derived.WalkKit
import Derived.ProofKit
import Derived.OpenShut
import Derived.ShutString
import Derived.ChangeOld
import Derived.Below
import Derived.Stop.LaidTwo
import Derived.RowKitTokens
import Derived.LaidMore
import Derived.SevenTiedAt
import Derived.Test.YtabpcmbohmodnaaDoorTie
import Derived.Test.YtabpcmbohmodnaaDoorCards
namespace Go.Proofs.YtabpcmbohmodnaaDoor.fnExactSolveDominoes
open Go.ChangeShapes Go.WideShapes Go.ChangeAt Go.RowKit Go.Tc Go.Fn

theorem walk (v0 : Value) (x0 : (List GDomino)) (v1 : Value) (x1 : Int) (v2 : Value) (x2 : Int) (w : World) (hT : Stn 100 0 1 Tryd.prog w) (r0 : Rd nowhere w v0 x0) (w0 : Wf.wf x0) (r1 : Rd nowhere w v1 x1) (w1 : Wf.wf x1) (r2 : Rd nowhere w v2 x2) (w2 : Wf.wf x2) :
    Calls Tryd.prog 3 #[v0, v1, v2] w fun e w' => e = .returned (.bool true) ∧ Below w.heap.size w w' := by
  obtain rfl := Rd.int r1
  obtain rfl := Rd.int r2
  exact walk_of (c_laws_FnExactSolveDominoes nowhere w (fun _ h => h.elim) hT v0 x0 r0 x1 x2 true (law_SolveDominoes x0 x1 x2 w0 w1 w2)) rfl

theorem star : "*" ++ "errors.errorString" = "*errors.errorString" := by decide
theorem row_of (u : TypeId) (h : Tryd.prog.typeName? 3 u = some "*errors.errorString") : u = 100 :=
  typeName_ptr_named (nm := "errors.errorString") (by rw [star]; kernel_rfl) (by kernel_rfl) (by decide) u (by rw [star]; exact h)
theorem var_keep {P : Program} {w w' : World} {n : String} {cs : Array Value} (bel : Below w.heap.size w w') (h : w.var? P n = some cs) : w'.var? P n = some cs := by
  unfold World.var? at h ⊢
  cases hg : P.globalNamed n with
  | none => rw [hg] at h; cases h
  | some g =>
    rw [hg] at h
    simp only [Option.bind_some] at h ⊢
    cases hh : w.heap[g]? with
    | none => rw [hh] at h; cases h
    | some o =>
      have hlt : g < w.heap.size := (Array.getElem?_eq_some_iff.1 hh).1
      rw [bel.block g hlt, hh]
      rw [hh] at h
      exact h
theorem vr {H : Type} (enc : TypeId × Value → H) {a0 a1 : Addr} {X : World} (h0 : X.var? Tryd.prog "loop.example/g01079/impl.errNone" = some #[.iface 100 (.pointer (some a0))]) (h1 : X.var? Tryd.prog "loop.example/g01079/impl.errUnknown" = some #[.iface 100 (.pointer (some a1))]) (sp : Nat → Bool) : DataW.TrodVars enc Tryd.prog X sp ["loop.example/g01079/impl.errNone", "loop.example/g01079/impl.errUnknown"] [tok enc (.iface 100 (.pointer (some a0))), tok enc (.iface 100 (.pointer (some a1)))] [.cell 0 0, .cell 1 0] :=
  vars_read2 enc (by kernel_rfl) (by kernel_rfl) Tryd.underlying49 h0 trivial (by kernel_rfl) (by kernel_rfl) Tryd.underlying49 h1 trivial sp
theorem door_met (os : Os) (args : Array Value) : laidMetH Tryd.prog Rows.fnExactSolveDominoesRow.laid ((World.doorLaid Tryd.prog 400 os).forCall (fun _ _ => 0) ⟨#[], args, []⟩).memory :=
  laidMetH_of_parts3 (fuel := 8) (laidMet_of_run' 8 (by kernel_rfl) (by kernel_rfl)) (by kernel_rfl) (by kernel_rfl)
set_option maxRecDepth 100000 in
theorem lifted (os : Os) (started : os.Started) (H : Type) (enc : TypeId × Value → H) :
    ReturnsInHanded {} Tryd.checked os 3 .any (fun w args => (Rows.fnExactSolveDominoesSpec.pre enc Tryd.prog Tryd.f3 [] false w args ∧ laidMetH Tryd.prog Rows.fnExactSolveDominoesRow.laid w) ∧ sizedMet enc Tryd.prog Tryd.f3 (OpenSpec.ofChange Rows.fnExactSolveDominoesSpec) false w args) (Rows.fnExactSolveDominoesSpec.post enc Tryd.prog Tryd.f3 false true false false) := by
  refine returnsInHanded_of_change_and (C := Tryd.checked) (X := fun w _ => laidMetH Tryd.prog Rows.fnExactSolveDominoesRow.laid w) (fun _ _ _ hh h => h.of_heap hh) own started (by kernel_rfl) Tryd.func3
    (ChangeSpec.witness_shaped (enc := enc) (C := Tryd.checked) (os := os) (X := fun w _ => laidMetH Tryd.prog Rows.fnExactSolveDominoesRow.laid w) false (World.doorLaid Tryd.prog 400 os) #[.slice none 0 0, .int .i64 0, .int .i64 0] 8 rfl (World.shaped_of_RefB (by kernel_rfl) (by kernel_rfl)) (by kernel_rfl) (by kernel_rfl) (by kernel_rfl) (door_met os _)) ?_
  intro W base args ds gs before hval0 hW _ _ hL _
  have hval : ∀ (j : Nat) t v, Tryd.f3.params[j]? = some t → args[j]? = some v → Value.okWide Tryd.prog W .any base t v := hval0
  have hW' := hW
  obtain ⟨p, q, hA0, hV, rfl, hfz, hnd⟩ := hW
  have hA : DataW.TrodAll enc Tryd.prog W 0 (fun _ => true) true Tryd.f3.params.toList args.toList ds p := hA0
  rw [Tryd.params3] at hA hval
  obtain ⟨v0, vs0, d0, ds0, p0, q0, hargs, rfl, rfl, h0, r0⟩ := trodAll_cons hA
  obtain ⟨v1, vs1, d1, ds1, p1, q1, rfl, rfl, rfl, h1, r1⟩ := trodAll_cons r0
  obtain ⟨v2, vs2, d2, ds2, p2, q2, rfl, rfl, rfl, h2, r2⟩ := trodAll_cons r1
  obtain ⟨rfl, rfl, rfl⟩ := trodAll_nil r2
  obtain rfl : args = #[v0, v1, v2] := by cases args; simp_all
  have hV2 : DataW.TrodVars enc Tryd.prog W (fun _ => true) ["loop.example/g01079/impl.errNone", "loop.example/g01079/impl.errUnknown"] gs q := hV
  rw [MakeChecks.laidMetH_plain _ _ _ (by kernel_rfl)] at hL
  have hd : laidMet Tryd.prog (("loop.example/g01079/impl.errNone", Rows.laid_loop_example_g01079_impl_errNone) :: ("loop.example/g01079/impl.errUnknown", Rows.laid_loop_example_g01079_impl_errUnknown) :: []) W := hL
  obtain ⟨a0, a1, s0, s1, c0, c1, t0, t1, hv0, hv1, _, _, _, _, _, _, hne, hb0, hb1⟩ := laid_sentinels2 (g0 := 0) (g1 := 1) (ti := 49) (tp := 100) (te := 125) (ts := 9) hd (by kernel_rfl) (by kernel_rfl) (by kernel_rfl) (by kernel_rfl) Tryd.underlying49 row_of Tryd.underlying100 Tryd.underlying125 rfl rfl Tryd.underlying9 (by kernel_rfl) (by kernel_rfl)
  obtain ⟨rfl, rfl⟩ := hV2.unique (vr enc hv0 hv1 _)
  have hT : Stn 100 0 1 Tryd.prog W := ⟨a0, a1, by simpa using World.var?_cell (show Tryd.prog.globalNamed "loop.example/g01079/impl.errNone" = some 0 by kernel_rfl) hv0 0, by simpa using World.var?_cell (show Tryd.prog.globalNamed "loop.example/g01079/impl.errUnknown" = some 1 by kernel_rfl) hv1 0, hne, ⟨_, _, hb0⟩, ⟨_, _, hb1⟩⟩
  have lt0 : ∀ x ∈ p0, x.block < W.heap.size := by obtain ⟨m, hm⟩ := h0; exact DataW.trod_lt m _ _ _ hm
  obtain ⟨x0, e0, w0⟩ := rd_of shp_22 tr_22 (hval 0 22 v0 rfl rfl) h0
  have lt1 : ∀ x ∈ p1, x.block < W.heap.size := by obtain ⟨m, hm⟩ := h1; exact DataW.trod_lt m _ _ _ hm
  obtain ⟨x1, e1, w1⟩ := rd_of shp_2 tr_2 (hval 1 2 v1 rfl rfl) h1
  have lt2 : ∀ x ∈ p2, x.block < W.heap.size := by obtain ⟨m, hm⟩ := h2; exact DataW.trod_lt m _ _ _ hm
  obtain ⟨x2, e2, w2⟩ := rd_of shp_2 tr_2 (hval 2 2 v2 rfl rfl) h2
  clear hA0 hval0
  refine (walk v0 x0 v1 x1 v2 x2 W hT e0 w0 e1 w1 e2 w2).mono fun e W' ⟨he, bel⟩ => ?_
  subst he
  exact ⟨_, rfl, _, _, _, [], _, [.cell 0 0, .cell 1 0], hW', trodAll_mk1 (shut_bool Tryd.underlying4 _), (trodAll_cons_mk (Below.trod laidOut (by kernel_rfl) (of_decide_eq_true (by kernel_rfl)) h0 bel lt0) (trodAll_cons_mk (Below.trod laidOut (by kernel_rfl) (of_decide_eq_true (by kernel_rfl)) h1 bel lt1) (trodAll_cons_mk (Below.trod laidOut (by kernel_rfl) (of_decide_eq_true (by kernel_rfl)) h2 bel lt2) trodAll_mk0))), vr enc (var_keep bel hv0) (var_keep bel hv1) _, bel.frame _, fun h => by cases h⟩

theorem k1 : Rows.fnExactSolveDominoesRow.wf (OpenSpec.ofChange Rows.fnExactSolveDominoesSpec) = true := by kernel_rfl
theorem k3 : (mapsRowed Tryd.prog && Tryd.f3.params.all (Tryd.prog.readableRec ·) && namedTie Tryd.prog Rows.fnExactSolveDominoesRow.named Rows.fnExactSolveDominoesSpec.vars) = true := by kernel_rfl
theorem k4 : ((Rows.fnExactSolveDominoesRow.stops == []) && (Tryd.prog.stops == []) && (Rows.fnExactSolveDominoesRow.knobs == []) && (Tryd.prog.stopKnobs == [])) = true := by kernel_rfl
theorem k5 : (Rows.fnExactSolveDominoesRow.inPlace == Tryd.prog.inPlace 3) = true := by kernel_rfl
theorem k6 : (Rows.fnExactSolveDominoesRow.unfollowed == Tryd.prog.unfollowed 3) = true := by kernel_rfl
theorem k7 : (Rows.fnExactSolveDominoesRow.recurses == Tryd.prog.recurses 3) = true := by kernel_rfl
theorem k8 : (Rows.fnExactSolveDominoesRow.named == Tryd.prog.varsNamed 3) = true := by kernel_rfl
theorem k9 : ((Rows.fnExactSolveDominoesRow.maps == (Tryd.f3.params.toList ++ Rows.fnExactSolveDominoesSpec.plain.varTypes Tryd.prog).any (Tryd.prog.mapsRec ·)) && (Rows.fnExactSolveDominoesRow.ifaces == (Tryd.f3.params.toList ++ Rows.fnExactSolveDominoesSpec.plain.varTypes Tryd.prog).any (Tryd.prog.ifacesRec ·)) && (Rows.fnExactSolveDominoesRow.mapsOut == Tryd.prog.mapsAmong Tryd.f3.resultTypes.toList)) = true := by kernel_rfl
theorem k10 : ((Rows.fnExactSolveDominoesRow.loops == (Tryd.f3.params.toList ++ Rows.fnExactSolveDominoesSpec.plain.varTypes Tryd.prog).any (Tryd.prog.loopsFrom ·)) && (Rows.fnExactSolveDominoesRow.wideKeys == (Tryd.f3.params.toList ++ Rows.fnExactSolveDominoesSpec.plain.varTypes Tryd.prog ++ Tryd.f3.resultTypes.toList).any (Tryd.prog.wideKeysFrom ·))) = true := by kernel_rfl
theorem k11 : (Rows.fnExactSolveDominoesSpec.vars.all (Tryd.prog.varReadable ·) && Tryd.f3.resultTypes.all (fun t => Tryd.prog.readableRec t && decide (t < Tryd.prog.types.size)) && (Rows.fnExactSolveDominoesRow.ifacesOut == Tryd.f3.resultTypes.toList.any (Tryd.prog.ifacesRec ·)) && (Rows.fnExactSolveDominoesRow.loopsOut == Tryd.f3.resultTypes.toList.any (Tryd.prog.loopsFrom ·)) && (Rows.fnExactSolveDominoesRow.plainKeys == Tryd.prog.plainKeys) && Rows.fnExactSolveDominoesRow.shortTexts.isNone) = true := by kernel_rfl
theorem k16 : kindsOk Tryd.prog Tryd.f3 Rows.fnExactSolveDominoesRow = true := by kernel_rfl
theorem k17 : ((Rows.fnExactSolveDominoesRow.veiled == (Tryd.f3.params.toList ++ Rows.fnExactSolveDominoesSpec.plain.varTypes Tryd.prog ++ Tryd.f3.resultTypes.toList).any (Tryd.prog.veiledRec ·)) && Rows.fnExactSolveDominoesRow.veiledFits Tryd.prog Tryd.f3.params.toList (Tryd.f3.params.toList ++ Rows.fnExactSolveDominoesSpec.plain.varTypes Tryd.prog ++ Tryd.f3.resultTypes.toList)) = true := by kernel_rfl
theorem kn : Tryd.prog.funcNamed Rows.fnExactSolveDominoesRow.func = some 3 := by kernel_rfl
theorem ki : Tryd.f3.isInstance Tryd.prog Rows.fnExactSolveDominoesRow.origin Rows.fnExactSolveDominoesRow.targs := of_decide_eq_true (by kernel_rfl)
theorem kl : (Rows.fnExactSolveDominoesRow.lifted == Tryd.prog.liftsFinal) = true := lifts
theorem km : (Tryd.prog.make == some Rows.fnExactSolveDominoesRow.make) = true := makes
theorem kj : joinedFacts Tryd.prog 3 Tryd.f3 Rows.fnExactSolveDominoesSpec Rows.fnExactSolveDominoesRow = true := joined_of k1 laidOut k3 k4 k5 k6 k7 k8 k9 k10 k11 heard enters kl km k16 k17
theorem over : Rows.fnExactSolveDominoesRow.holds Tryd.pinned (OpenSpec.ofChange Rows.fnExactSolveDominoesSpec) :=
  OpenClaim.holds_of_wide 3 Tryd.f3 rfl rfl rfl rfl rfl rfl rfl ⟨rfl, rfl, rfl, rfl, rfl⟩ rfl rfl rfl rfl rfl kn Tryd.func3 kj
    ki (by unfold Func.isWrapper; first | (rw [if_pos (by decide +kernel)]; kernel_rfl) | (rw [if_neg (by decide +kernel)]; exact ⟨rfl, rfl⟩))
    (fun os started H enc _ => lifted os started H enc)

/-- The tied card: what the row lists is what the program's text lays. -/
theorem proved : Rows.FnExactSolveDominoesCardSaid :=
  Claim7.holds_tied_plain_at .later [] [.sentinel, .sentinel] true (true, "c3ff16c3d0b4a5e17728c5e4522ba3dc9b77f5808a0e7e81de39abd13f53b940") true over (fun _ h => by cases h) (by kernel_rfl) (fun _ h => by cases h) fnExactSolveDominoes_row_tie rfl ⟨rfl, rfl⟩ (by kernel_rfl) rfl
    (fun f fn hf hfn => by
      obtain rfl : f = 3 := Option.some.inj (kn.symm.trans hf) |>.symm
      obtain rfl : fn = Tryd.f3 := (Option.some.inj (Tryd.func3.symm.trans hfn)).symm
      exact ⟨by kernel_rfl, fun j t ht => by
        rw [Tryd.params3] at ht
        have hm : t ∈ [22, 2] := by simpa using Array.mem_of_getElem? ht
        have hall : ([22, 2].all fun u => !Tryd.prog.wantsStandIn u) = true := by kernel_rfl
        exact (show Tryd.prog.wantsStandIn t = false by simpa using List.all_eq_true.1 hall t hm)⟩)
    (by kernel_rfl)
end Go.Proofs.YtabpcmbohmodnaaDoor.fnExactSolveDominoes
