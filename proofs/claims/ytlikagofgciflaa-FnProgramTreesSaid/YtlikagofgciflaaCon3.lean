/-
  Each function of the program computes what its plain function says: printed by program. No condition.
-/
import Derived.Test.YtlikagofgciflaaFn
import Derived.Test.YtlikagofgciflaaInf
import Derived.Test.YtlikagofgciflaaCon2
namespace Go.Proofs.Ytlikagofgciflaa
open Go Go.Tc Go.Fn
set_option linter.unusedVariables false
set_option maxHeartbeats 40000000 in
theorem c_impl_zeroCode_1 (A : Nat → Prop) (w : World) (hA : ∀ k, A k → k < w.heap.size) (v0_ : Value) (p0 : GCommand) (hp0 : Rd A w v0_ p0) (r : Bool) (hr : F_impl_zeroCode_1 p0 = some r) :
  Con Try.prog 55 [v0_] A w (fun x_ : Unit => .bool r) (fun x_ => []) := by
 obtain ⟨v0_0, rfl, hp0_0⟩ := GCommand.open hp0
 refine Con_of (v := fun (r : Bool) (x_ : Unit) => .bool r) (fs := fun r x_ => []) Try.func55 rfl Try.ntmps55 rfl ((SH.start hA).start_rd rfl hp0_0) rfl ?_ hr
 unfold F_impl_zeroCode_1
 refine J_sr ?_
 refine JL_st wn rfl (st_box' rfl (fun w hh => (cv_aggs ⟨cv_int, cv_int, cv_int, (hh.cv 0 rfl), trivial⟩))) (fun b1 => ?_)
 refine JA rfl rfl ?_
 refine JL_nt ?_
 refine J_sr ?_
 refine JL_q wn rfl (ex_fieldAddr fi_54_1 rfl rfl) ?_
 refine JL_q wn rfl (ex_load_bx 0 ti_2 rfl rfl rfl) ?_
 refine JL_q wn rfl (ex_neq rfl rfl) ?_
 refine JM rfl rfl ?_
 refine JL_cond (fun h2 => ?_) (fun h2 => ?_)
 ·refine JL_passed rfl rfl rfl h2 ?_
  refine JL_passed rfl rfl rfl h2 ?_
  refine JL_passed rfl rfl rfl h2 ?_
  refine JL_passed rfl rfl rfl h2 ?_
  refine JL_q wn rfl (ex_pick_true rfl h2 rfl) ?_
  refine JA rfl rfl ?_
  refine JL_nt ?_
  refine J_ret ?_
  exact N_ret1 rfl (rv_tmp rfl) (fun w hh => ⟨(), rfl, hh.sel [] rfl⟩)
 ·refine JL_q (wants_some rfl rfl rfl h2) rfl (ex_fieldAddr fi_54_3 rfl rfl) ?_
  refine JL_q (wants_some rfl rfl rfl h2) rfl (ex_load_bx 0 ti_52 rfl rfl rfl) ?_
  refine JL_bnd fun r3 hr4 => ?_
  refine JL_call (wants_some rfl rfl rfl h2) rfl Try.call56 rfl (Ca_of0 fun w hh => c_impl_onlyZero _ w (fun _ hk => hk.elim) _ _ (hh.rd0 1 rfl) _ hr4) (fun _ => ?_)
  refine JL_q (wants_some rfl rfl rfl h2) rfl (ex_not rfl) ?_
  refine JL_q wn rfl (ex_pick_false rfl h2 rfl) ?_
  refine JA rfl rfl ?_
  refine JL_nt ?_
  refine J_ret ?_
  exact N_ret1 rfl (rv_tmp rfl) (fun w hh => ⟨(), rfl, hh.sel [] rfl⟩)
set_option maxHeartbeats 40000000 in
theorem c_impl_zeroCode (A : Nat → Prop) (w : World) (hA : ∀ k, A k → k < w.heap.size) (v0_ : Value) (p0 : (List GCommand)) (hp0 : Rd A w v0_ p0) (r : Int) (hr : F_impl_zeroCode p0 = some r) :
  Con Try.prog 35 [v0_] A w (fun x_ : Unit => .int .i64 r) (fun x_ => []) := by
 refine Con_of (v := fun (r : Int) (x_ : Unit) => .int .i64 r) (fs := fun r x_ => []) Try.func35 rfl Try.ntmps35 rfl ((SH.start hA).start_rd rfl hp0) rfl ?_ hr
 unfold F_impl_zeroCode
 refine J_sr ?_
 refine JA rfl rfl ?_
 refine JL_nt ?_
 refine J_seq ?_
 refine J_sr ?_
 refine JM rfl rfl ?_
 refine JL_bnd fun r1 hr2 => ?_
 refine JL_call wn rfl Try.call54 rfl (Ca_of0 fun w hh => c_slices_ContainsFunc_Simpl_Command_impl_Command _ w (fun _ hk => hk.elim) _ _ (hh.rd0 0 rfl) _ _ (Clo.mk (caps := []) Try.call55 (fun w_ hb_ v_ x_ r_ hrd_ hr_ => c_impl_zeroCode_1 nowhere w_ (fun _ hk => hk.elim) v_ x_ hrd_  _ hr_)) _ hr2) (fun _ => ?_)
 refine JL_nt ?_
 refine J_if rfl (fun h3 => ?_) (fun h3 => ?_)
 ·refine J_sr ?_
  refine JA rfl rfl ?_
  refine JL_nt ?_
  refine J_ret ?_
  refine N_then_ret ?_
  exact N_ret1 rfl (rv_tmp rfl) (fun w hh => ⟨(), rfl, hh.sel [] rfl⟩)
 ·refine J_skip ?_
  refine N_then ?_
  refine J_sr ?_
  refine JA rfl rfl ?_
  refine JL_nt ?_
  refine J_ret ?_
  exact N_ret1 rfl (rv_tmp rfl) (fun w hh => ⟨(), rfl, hh.sel [] rfl⟩)
set_option maxHeartbeats 40000000 in
theorem c_impl_ranker_count_ind : ∀ (k_ : Nat) (w : World) (m0_ : Nat) (p0 : (List (Gendings × Int))) (B_ : List Nat) (hB_ : Ctx.owns [mpf Gendings.enc (Value.int .i64) m0_ p0] = B_) (hn_ : PHanded w [mpf Gendings.enc (Value.int .i64) m0_ p0]) (p1 : Int) (p2 : Int) (r : (Int) × ((List (Gendings × Int)))) (hr : fixN (fun (rec_ : ((List (Gendings × Int)) × Int × Int) → Option ((Int) × ((List (Gendings × Int))))) (a_ : (List (Gendings × Int)) × Int × Int) => F_impl_ranker_count_step (fun p0 p1 p2 => rec_ (p0, p1, p2)) a_.1 a_.2.1 a_.2.2) k_ (p0, p1, p2) = some r),
  PtrCon Try.prog 88 [.map (some m0_), .int .i64 p1, .int .i64 p2] w B_ (fun x_ : Unit => .int .i64 r.1) (fun x_ => [mpf Gendings.enc (Value.int .i64) m0_ r.2]) := by
 intro k_
 induction k_ with
 | zero => intro w m0_ p0 B_ hB_ hn_ p1 p2 r hr; cases hr
 | succ k_ ih_ =>
 intro w m0_ p0 B_ hB_ hn_ p1 p2 r hr
 replace hr : F_impl_ranker_count_step (fun p0 p1 p2 => fixN (fun (rec_ : ((List (Gendings × Int)) × Int × Int) → Option ((Int) × ((List (Gendings × Int))))) (a_ : (List (Gendings × Int)) × Int × Int) => F_impl_ranker_count_step (fun p0 p1 p2 => rec_ (p0, p1, p2)) a_.1 a_.2.1 a_.2.2) k_ (p0, p1, p2)) p0 p1 p2 = some r := hr
 refine PtrCon_of (v := fun (r : (Int) × ((List (Gendings × Int)))) (x_ : Unit) => .int .i64 r.1) (fs := fun r x_ => [mpf Gendings.enc (Value.int .i64) m0_ r.2]) Try.func88 rfl Try.ntmps88 rfl (show SH nowhere (bare w) w [mpf Gendings.enc (Value.int .i64) m0_ p0, .tkn (.int .i64 0) (0 : Int) (restL w B_), rest w B_] from (SH.begin hB_ hn_)) rfl ?_ hr
 unfold F_impl_ranker_count_step
 refine J_sr ?_
 refine JA rfl rfl ?_
 refine JL_nt ?_
 refine J_seq ?_
 refine J_cut' (S' := Unit) (G' := Unit) (fun _ _ => [(0, .map (some m0_)), (1, .int .i64 p1), (2, .int .i64 p2)]) (fun _ _ => [rest w B_, mpf Gendings.enc (Value.int .i64) m0_ p0, .tkn (.int .i64 0) (0 : Int) (restL w B_)]) ?_ (fun s1 g2 => ?_)
 ·refine J_sr ?_
  refine JM rfl rfl ?_
  refine JL_q wn rfl (ex_eql rfl rfl) ?_
  refine JM rfl rfl ?_
  refine JL_cond (fun h3 => ?_) (fun h3 => ?_)
  ·refine JL_passed rfl rfl rfl h3 ?_
   refine JL_passed rfl rfl rfl h3 ?_
   refine JL_passed rfl rfl rfl h3 ?_
   refine JL_q wn rfl (ex_pick_true rfl h3 rfl) ?_
   refine JL_nt ?_
   refine J_if_true rfl rfl ?_
   refine J_seq ?_
   refine J_sr ?_
   refine JM rfl rfl ?_
   refine JL_q wn rfl (ex_eql rfl rfl) ?_
   refine JM rfl rfl ?_
   refine JL_cond (fun h4 => ?_) (fun h4 => ?_)
   ·refine JL_q (wants_some rfl rfl rfl h4) rfl (ex_move rfl) ?_
    refine JL_q (wants_some rfl rfl rfl h4) rfl (ex_eql rfl rfl) ?_
    refine JL_q wn rfl (ex_pick_true rfl h4 rfl) ?_
    refine JL_nt ?_
    refine J_if_true rfl h3 ?_
    refine J_sr ?_
    refine JA rfl rfl ?_
    refine JL_nt ?_
    refine J_ret ?_
    refine N_then_ret ?_
    refine N_mid_ret ?_
    refine N_then_ret ?_
    exact N_ret1 rfl (rv_tmp rfl) (fun w hh => ⟨(), rfl, hh.sel [0, 1, 2] rfl⟩)
   ·refine JL_passed rfl rfl rfl h4 ?_
    refine JL_passed rfl rfl rfl h4 ?_
    refine JL_q wn rfl (ex_pick_false rfl h4 rfl) ?_
    refine JL_nt ?_
    refine J_if_false rfl rfl ?_
    refine J_skip ?_
    refine N_then ?_
    refine J_sr ?_
    refine JA rfl rfl ?_
    refine JL_nt ?_
    refine J_ret ?_
    refine N_mid_ret ?_
    refine N_then_ret ?_
    exact N_ret1 rfl (rv_tmp rfl) (fun w hh => ⟨(), rfl, hh.sel [0, 1, 2] rfl⟩)
  ·refine JL_q (wants_some rfl rfl rfl h3) rfl (ex_move rfl) ?_
   refine JL_q (wants_some rfl rfl rfl h3) rfl (ex_move rfl) ?_
   refine JL_q (wants_some rfl rfl rfl h3) rfl (ex_lss rfl rfl) ?_
   refine JL_q wn rfl (ex_pick_false rfl h3 rfl) ?_
   refine JL_nt ?_
   refine J_if rfl (fun h5 => ?_) (fun h5 => ?_)
   ·refine J_seq ?_
    refine J_sr ?_
    refine JM rfl rfl ?_
    refine JL_q wn rfl (ex_eql rfl rfl) ?_
    refine JM rfl rfl ?_
    refine JL_cond (fun h6 => ?_) (fun h6 => ?_)
    ·refine JL_q (wants_some rfl rfl rfl h6) rfl (ex_move rfl) ?_
     refine JL_q (wants_some rfl rfl rfl h6) rfl (ex_eql rfl rfl) ?_
     refine JL_q wn rfl (ex_pick_true rfl h6 rfl) ?_
     refine JL_nt ?_
     refine J_if_false rfl h3 ?_
     refine J_skip ?_
     refine N_then ?_
     refine J_sr ?_
     refine JA rfl rfl ?_
     refine JL_nt ?_
     refine J_ret ?_
     refine N_mid_ret ?_
     refine N_then_ret ?_
     exact N_ret1 rfl (rv_tmp rfl) (fun w hh => ⟨(), rfl, hh.sel [0, 1, 2] rfl⟩)
    ·refine JL_passed rfl rfl rfl h6 ?_
     refine JL_passed rfl rfl rfl h6 ?_
     refine JL_q wn rfl (ex_pick_false rfl h6 rfl) ?_
     refine JL_nt ?_
     refine J_if_false rfl rfl ?_
     refine J_skip ?_
     refine N_then ?_
     refine J_sr ?_
     refine JA rfl rfl ?_
     refine JL_nt ?_
     refine J_ret ?_
     refine N_mid_ret ?_
     refine N_then_ret ?_
     exact N_ret1 rfl (rv_tmp rfl) (fun w hh => ⟨(), rfl, hh.sel [0, 1, 2] rfl⟩)
   ·refine J_skip ?_
    exact N_meet' () ⟨rfl, rfl, rfl, trivial⟩ [2, 0, 1] rfl rfl
 ·refine N_then ?_
  refine J_sr ?_
  refine JM rfl rfl ?_
  refine JM rfl rfl ?_
  refine JL_q wn rfl (ex_build si_128 rfl (.cons fi_128_0 rfl rfl (.cons fi_128_1 rfl rfl .nil)) (fun w hh => ⟨cv_int, cv_int, trivial⟩)) ?_
  refine JL_st wn rfl (st_alloc zi_128 rfl) (fun b7 => ?_)
  refine JL_sk wn (sk_store_bx' 0 ti_128 rfl rfl (fun w hh => (cv_aggs ⟨cv_int, cv_int, trivial⟩)) rfl rfl rfl rfl) ?_
  refine JL_nt ?_
  refine J_sr ?_
  refine JM rfl rfl ?_
  refine JL_q wn rfl (ex_load_bx_agg 0 ti_128 rfl rfl rfl rfl) ?_
  refine JL_q wn rfl (ex_lookup_ok (x := (⟨p1, p2⟩ : Gendings)) (z := 0) 2 key_128 Try.underlying124 zi_2 rfl rfl rfl rfl rfl) ?_
  refine JM rfl rfl ?_
  refine JL_q wn rfl (ex_extract rfl rfl) ?_
  refine JL_q wn rfl (ex_extract rfl rfl) ?_
  refine JA rfl rfl ?_
  refine JA rfl rfl ?_
  refine JL_nt ?_
  refine J_seq ?_
  refine J_sr ?_
  refine JM rfl rfl ?_
  refine JL_q wn rfl (ex_not rfl) ?_
  refine JL_nt ?_
  refine J_if rfl (fun h8 => ?_) (fun h8 => ?_)
  ·refine J_sr ?_
   refine JM rfl rfl ?_
   refine JM rfl rfl ?_
   refine JL_q wn rfl (ex_sub rfl rfl) ?_
   refine JM rfl rfl ?_
   refine JL_q wn rfl (ex_sub rfl rfl) ?_
   refine JL_bnd fun r9 hr10 => ?_
   refine JL_callT wn rfl Try.call88 rfl (CaT_of [2] [0, 1, 3] rfl rfl (fun _ => rfl) fun w hh => ih_ w m0_ p0 _ rfl (hh.handed [2] rfl rfl rfl rfl) _ _ _ hr10) (fun _ => ?_)
   refine JM rfl rfl ?_
   refine JM rfl rfl ?_
   refine JL_q wn rfl (ex_sub rfl rfl) ?_
   refine JM rfl rfl ?_
   refine JL_q wn rfl (ex_add rfl rfl) ?_
   refine JL_bnd fun r11 hr12 => ?_
   refine JL_callT wn rfl Try.call88 rfl (CaT_of [0] [1, 2, 3] rfl rfl (fun _ => rfl) fun w hh => ih_ w m0_ r9.2 _ rfl (hh.handed [0] rfl rfl rfl rfl) _ _ _ hr12) (fun _ => ?_)
   refine JL_q wn rfl (ex_add rfl rfl) ?_
   refine JL_q wn rfl (ex_min rfl rfl) ?_
   refine JA rfl rfl ?_
   refine JL_nt ?_
   refine J_region ?_
   refine JM rfl rfl ?_
   refine JL_q wn rfl (ex_load_bx_agg 1 ti_128 rfl rfl rfl rfl) ?_
   refine JM rfl rfl ?_
   refine JL_sk wn (sk_mapUpdate (x := (⟨p1, p2⟩ : Gendings)) (y := (if (w64 (r9.1 + r11.1)) < 1000000000001 then (w64 (r9.1 + r11.1)) else 1000000000001)) 0 key_128 Try.underlying124 rfl rfl rfl rfl rfl rfl rfl rfl) ?_
   refine JL_nt ?_
   refine J_sr ?_
   refine JM rfl rfl ?_
   refine JA rfl rfl ?_
   refine JL_nt ?_
   refine J_ret ?_
   exact N_ret1 rfl (rv_tmp rfl) (fun w hh => ⟨(), rfl, hh.sel [0, 3, 2] rfl⟩)
  ·refine J_skip ?_
   refine N_then ?_
   refine J_sr ?_
   refine JM rfl rfl ?_
   refine JA rfl rfl ?_
   refine JL_nt ?_
   refine J_ret ?_
   exact N_ret1 rfl (rv_tmp rfl) (fun w hh => ⟨(), rfl, hh.sel [2, 3, 1] rfl⟩)
theorem c_impl_ranker_count (w : World) (m0_ : Nat) (p0 : (List (Gendings × Int))) (B_ : List Nat) (hB_ : Ctx.owns [mpf Gendings.enc (Value.int .i64) m0_ p0] = B_) (hn_ : PHanded w [mpf Gendings.enc (Value.int .i64) m0_ p0]) (p1 : Int) (p2 : Int) (r : (Int) × ((List (Gendings × Int)))) (hr : F_impl_ranker_count p0 p1 p2 = some r) :
  PtrCon Try.prog 88 [.map (some m0_), .int .i64 p1, .int .i64 p2] w B_ (fun x_ : Unit => .int .i64 r.1) (fun x_ => [mpf Gendings.enc (Value.int .i64) m0_ r.2]) := by
 obtain ⟨k_, hk_⟩ := fixR_some hr
 exact c_impl_ranker_count_ind k_ w m0_ p0 B_ hB_ hn_ p1 p2 r hk_
set_option maxHeartbeats 40000000 in
theorem c_impl_treeAt (A : Nat → Prop) (w : World) (hA : ∀ k, A k → k < w.heap.size) (p0 : Int) (r : (List Bool)) (hr : F_impl_treeAt p0 = some r) :
  Con Try.prog 80 [.int .i64 p0] A w (fun x_ : Value => x_) (fun x_ => [.ow 4 x_ r]) := by
 refine Con_of (v := fun (r : (List Bool)) (x_ : Value) => x_) (fs := fun r x_ => [.ow 4 x_ r]) Try.func80 rfl Try.ntmps80 rfl (SH.start hA) rfl ?_ hr
 unfold F_impl_treeAt
 refine J_sr ?_
 refine JA rfl rfl ?_
 refine JL_nt ?_
 refine J_sr ?_
 refine JL_st wn rfl (st_makeMap (κ := Gendings) (ν := Int) (enc := Gendings.enc) (venc := (Value.int .i64))) (fun b1 => ?_)
 refine JA rfl rfl ?_
 refine JA rfl rfl ?_
 refine JL_nt ?_
 refine J_seq ?_
 refine J_loop' (S := Int × List (Gendings × Int) × Int) (G := Unit) (F_impl_treeAt_L1) (fun s2 _ => [(0, .int .i64 s2.1), (3, .map (some b1)), (4, .int .i64 s2.2.2)]) (fun s2 _ => [mpf Gendings.enc (Value.int .i64) b1 s2.2.1]) (p0, ([] : List (Gendings × Int)), 1) () ⟨rfl, rfl, rfl, trivial⟩ [0] rfl rfl (fun s2 g3 => ?_) (fun s2 g3 => ?_)
 ·unfold F_impl_treeAt_L1
  refine J_seq ?_
  refine J_sr ?_
  refine JM rfl rfl ?_
  refine JM rfl rfl ?_
  refine JM rfl rfl ?_
  refine JL_bnd fun r4 hr5 => ?_
  refine JL_callT wn rfl Try.call88 rfl (CaT_of [0] [] rfl rfl (fun _ => rfl) fun w hh => c_impl_ranker_count w b1 s2.2.1 _ rfl (hh.handed [0] rfl rfl rfl rfl) _ _ _ hr5) (fun _ => ?_)
  refine JL_q wn rfl (ex_geq rfl rfl) ?_
  refine JL_nt ?_
  refine J_if rfl (fun h6 => ?_) (fun h6 => ?_)
  ·refine J_skip ?_
   refine N_then ?_
   refine J_seq ?_
   refine J_block ?_
   refine J_region ?_
   refine JM rfl rfl ?_
   refine JM rfl rfl ?_
   refine JM rfl rfl ?_
   refine JL_bnd fun r7 hr8 => ?_
   refine JL_callT wn rfl Try.call88 rfl (CaT_of [0] [] rfl rfl (fun _ => rfl) fun w hh => c_impl_ranker_count w b1 r4.2 _ rfl (hh.handed [0] rfl rfl rfl rfl) _ _ _ hr8) (fun _ => ?_)
   refine JL_q wn rfl (ex_sub rfl rfl) ?_
   refine JA rfl rfl ?_
   refine JL_nil ?_
   refine N_block ?_
   refine N_then ?_
   refine J_region ?_
   refine JM rfl rfl ?_
   refine JL_q wn rfl (ex_add rfl rfl) ?_
   refine JA rfl rfl ?_
   refine JL_nil ?_
   exact N_next' () ⟨rfl, rfl, rfl, trivial⟩ [0] rfl rfl
  ·refine J_exit ?_
   refine N_then_exit ?_
   exact N_break' () ⟨rfl, rfl, rfl, trivial⟩ [0] rfl rfl
 ·refine N_then ?_
  refine J_sr ?_
  refine JL_st wn rfl (st_buildSlice (vs := []) ([] : List Bool) Try.underlying25 ti_4 zi_4 rfl rfl rfl (fun w hh => trivial)) (fun b9 => ?_)
  refine JA rfl rfl ?_
  refine JA rfl rfl ?_
  refine JL_nt ?_
  refine J_seq ?_
  refine J_sr ?_
  refine JM rfl rfl ?_
  refine JL_q wn rfl (ex_sub rfl rfl) ?_
  refine JA rfl rfl ?_
  refine JL_nt ?_
  refine J_loop' (S := Int × List (Gendings × Int) × (List Bool) × Int × Int) (G := Value) (F_impl_treeAt_L2) (fun s10 g11 => [(0, .int .i64 s10.1), (3, .map (some b1)), (5, g11), (6, .int .i64 s10.2.2.2.1), (7, .int .i64 s10.2.2.2.2)]) (fun s10 g11 => [mpf Gendings.enc (Value.int .i64) b1 s10.2.1, .ow 4 g11 s10.2.2.1]) (s2.1, s2.2.1, ([] : List Bool), 1, (w64 (s2.2.2 - 1))) (.slice (some ⟨b9, 0, none⟩) 0 0) ⟨rfl, rfl, rfl, rfl, rfl, trivial⟩ [1, 0] rfl rfl (fun s10 g11 => ?_) (fun s10 g11 => ?_)
  ·unfold F_impl_treeAt_L2
   refine J_seq ?_
   refine J_sr ?_
   refine JM rfl rfl ?_
   refine JL_q wn rfl (ex_geq rfl rfl) ?_
   refine JL_nt ?_
   refine J_if rfl (fun h12 => ?_) (fun h12 => ?_)
   ·refine J_skip ?_
    refine N_then ?_
    refine J_seq ?_
    refine J_block ?_
    refine J_sr ?_
    refine JM rfl rfl ?_
    refine JM rfl rfl ?_
    refine JM rfl rfl ?_
    refine JL_q wn rfl (ex_sub rfl rfl) ?_
    refine JL_bnd fun r13 hr14 => ?_
    refine JL_callT wn rfl Try.call88 rfl (CaT_of [0] [1] rfl rfl (fun _ => rfl) fun w hh => c_impl_ranker_count w b1 s10.2.1 _ rfl (hh.handed [0] rfl rfl rfl rfl) _ _ _ hr14) (fun _ => ?_)
    refine JA rfl rfl ?_
    refine JL_nt ?_
    refine J_sr ?_
    refine JM rfl rfl ?_
    refine JM rfl rfl ?_
    refine JL_q wn rfl (ex_geq rfl rfl) ?_
    refine JA rfl rfl ?_
    refine JL_nt ?_
    refine J_seq ?_
    refine J_sr ?_
    refine JM rfl rfl ?_
    refine JL_nt ?_
    refine J_if rfl (fun h15 => ?_) (fun h15 => ?_)
    ·refine J_sr ?_
     refine JM rfl rfl ?_
     refine JM rfl rfl ?_
     refine JL_q wn rfl (ex_sub rfl rfl) ?_
     refine JA rfl rfl ?_
     refine JL_nt ?_
     refine J_region ?_
     refine JM rfl rfl ?_
     refine JL_q wn rfl (ex_add rfl rfl) ?_
     refine JA rfl rfl ?_
     refine JL_nt ?_
     refine J_region ?_
     refine JM rfl rfl ?_
     refine JM rfl rfl ?_
     refine JL_st wn rfl (st_buildSlice (vs := [.bool (decide (r13.1 ≤ s10.1))]) ([(decide (r13.1 ≤ s10.1))] : List Bool) Try.underlying25 ti_4 zi_4 rfl rfl rfl (fun w hh => ⟨(Rd.mk_bool _ _ _), trivial⟩)) (fun b16 => ?_)
     refine JL_bnd fun z17 hz18 => ?_
     refine JL_st wn rfl (st_append 2 Try.underlying25 ti_4 zi_4 rfl bi_4 rfl rfl rfl rfl (fun w hh => hh.src_ow 0 rfl) hz18) (fun v19 => ?_)
     refine JA rfl rfl ?_
     refine JL_nil ?_
     refine N_block ?_
     refine N_then ?_
     refine J_region ?_
     refine JM rfl rfl ?_
     refine JL_q wn rfl (ex_sub rfl rfl) ?_
     refine JA rfl rfl ?_
     refine JL_nil ?_
     exact N_next' v19 ⟨rfl, rfl, rfl, rfl, rfl, trivial⟩ [1, 2] rfl rfl
    ·refine J_region ?_
     refine JM rfl rfl ?_
     refine JL_q wn rfl (ex_sub rfl rfl) ?_
     refine JA rfl rfl ?_
     refine JL_nt ?_
     refine J_region ?_
     refine JM rfl rfl ?_
     refine JM rfl rfl ?_
     refine JL_st wn rfl (st_buildSlice (vs := [.bool (decide (r13.1 ≤ s10.1))]) ([(decide (r13.1 ≤ s10.1))] : List Bool) Try.underlying25 ti_4 zi_4 rfl rfl rfl (fun w hh => ⟨(Rd.mk_bool _ _ _), trivial⟩)) (fun b20 => ?_)
     refine JL_bnd fun z21 hz22 => ?_
     refine JL_st wn rfl (st_append 2 Try.underlying25 ti_4 zi_4 rfl bi_4 rfl rfl rfl rfl (fun w hh => hh.src_ow 0 rfl) hz22) (fun v23 => ?_)
     refine JA rfl rfl ?_
     refine JL_nil ?_
     refine N_block ?_
     refine N_then ?_
     refine J_region ?_
     refine JM rfl rfl ?_
     refine JL_q wn rfl (ex_sub rfl rfl) ?_
     refine JA rfl rfl ?_
     refine JL_nil ?_
     exact N_next' v23 ⟨rfl, rfl, rfl, rfl, rfl, trivial⟩ [1, 2] rfl rfl
   ·refine J_exit ?_
    refine N_then_exit ?_
    exact N_break' g11 ⟨rfl, rfl, rfl, rfl, rfl, trivial⟩ [0, 1] rfl rfl
  ·refine N_then ?_
   refine J_sr ?_
   refine JM rfl rfl ?_
   refine JA rfl rfl ?_
   refine JL_nt ?_
   refine J_ret ?_
   exact N_ret1 rfl (rv_tmp rfl) (fun w hh => ⟨g11, rfl, hh.sel [1] rfl⟩)
set_option maxHeartbeats 40000000 in
theorem c_impl_tree_nodesOf (A : Nat → Prop) (w : World) (hA : ∀ k, A k → k < w.heap.size) (v0_ : Value) (p0 : Tre) (hp0 : Rd A w v0_ p0) (r : Int) (hr : F_impl_tree_nodesOf p0 = some r) :
  Con Try.prog 37 [v0_] A w (fun x_ : Unit => .int .i64 r) (fun x_ => []) := by
 refine Con_of (v := fun (r : Int) (x_ : Unit) => .int .i64 r) (fs := fun r x_ => []) Try.func37 rfl Try.ntmps37 rfl ((SH.start hA).start_rd rfl hp0) rfl ?_ hr
 unfold F_impl_tree_nodesOf
 refine J_sr ?_
 refine JA rfl rfl ?_
 refine JL_nt ?_
 refine J_seq ?_
 refine J_sr ?_
 refine JM rfl rfl ?_
 refine JL_q wn rfl (ex_eq_tr 0 Try.underlying41 rfl rfl rfl) ?_
 refine JL_nt ?_
 refine J_if rfl (fun h1 => ?_) (fun h1 => ?_)
 ·refine J_sr ?_
  refine JA rfl rfl ?_
  refine JL_nt ?_
  refine J_ret ?_
  refine N_then_ret ?_
  exact N_ret1 rfl (rv_tmp rfl) (fun w hh => ⟨(), rfl, hh.sel [] rfl⟩)
 ·refine J_skip ?_
  refine N_then ?_
  refine J_sr ?_
  refine JM rfl rfl ?_
  refine JL_bnd fun y2 hy3 => ?_
  refine JL_q wn rfl (ex_nilCheck_tr 0 rfl rfl hy3) ?_
  refine JL_st wn rfl (st_field_tr 0 (Gtree.at_nodes _) fi_77_2 rfl rfl rfl hy3) (fun q4 => ?_)
  refine JL_st wn rfl (st_load_pt_o 0 (opens_int _) ti_2 rfl rfl) (fun _ => ?_)
  refine JA rfl rfl ?_
  refine JL_nt ?_
  refine J_ret ?_
  exact N_ret1 rfl (rv_tmp rfl) (fun w hh => ⟨(), rfl, hh.sel [] rfl⟩)
set_option maxHeartbeats 40000000 in
theorem c_impl_pair (A : Nat → Prop) (w : World) (hA : ∀ k, A k → k < w.heap.size) (v0_ : Value) (p0 : Tre) (hp0 : Rd A w v0_ p0) (v1_ : Value) (p1 : Tre) (hp1 : Rd A w v1_ p1) (r : Int) (hr : F_impl_pair p0 p1 = some r) :
  Con Try.prog 45 [v0_, v1_] A w (fun x_ : Nat => .pointer (some ⟨x_, 0, none⟩)) (fun x_ => [.bx x_ 77 [v0_, v1_, .int .i64 r]]) := by
 refine Con_of (v := fun (r : Int) (x_ : Nat) => .pointer (some ⟨x_, 0, none⟩)) (fs := fun r x_ => [.bx x_ 77 [v0_, v1_, .int .i64 r]]) Try.func45 rfl Try.ntmps45 rfl (((SH.start hA).start_rd rfl hp0).start_rd rfl hp1) rfl ?_ hr
 unfold F_impl_pair
 refine J_sr ?_
 refine JL_ctx (fun w hh => hh.tr_nil) ?_
 refine JA rfl rfl ?_
 refine JL_nt ?_
 refine J_sr ?_
 refine JM rfl rfl ?_
 refine JM rfl rfl ?_
 refine JM rfl rfl ?_
 refine JL_bnd fun r1 hr2 => ?_
 refine JL_call wn rfl Try.call37 rfl (Ca_of0 fun w hh => c_impl_tree_nodesOf _ w (fun _ hk => hk.elim) _ _ (hh.rd0 2 rfl) _ hr2) (fun _ => ?_)
 refine JL_q wn rfl (ex_add rfl rfl) ?_
 refine JM rfl rfl ?_
 refine JL_bnd fun r3 hr4 => ?_
 refine JL_call wn rfl Try.call37 rfl (Ca_of0 fun w hh => c_impl_tree_nodesOf _ w (fun _ hk => hk.elim) _ _ (hh.rd0 1 rfl) _ hr4) (fun _ => ?_)
 refine JL_q wn rfl (ex_add rfl rfl) ?_
 refine JL_q wn rfl (ex_build si_77 rfl (.cons fi_77_0 rfl rfl (.cons fi_77_1 rfl rfl (.cons fi_77_2 rfl rfl .nil))) (fun w hh => ⟨(hh.cv_tr 2 rfl), (hh.cv_tr 1 rfl), cv_int, trivial⟩)) ?_
 refine JL_st wn rfl (st_box' rfl (fun w hh => (cv_aggs ⟨(hh.cv_tr 2 rfl), (hh.cv_tr 1 rfl), cv_int, trivial⟩))) (fun b5 => ?_)
 refine JA rfl rfl ?_
 refine JL_nt ?_
 refine J_ret ?_
 exact N_ret1 rfl (rv_tmp rfl) (fun w hh => ⟨b5, rfl, hh.sel [0] rfl⟩)
set_option maxHeartbeats 40000000 in
theorem c_impl_treeOf_1_c0_ind : ∀ (k_ : Nat) (w : World) (b0_ : Nat) (p0 : (List Bool)) (v0_0 : Value) (b1_ : Nat) (p1 : Int) (b2_ : Nat) (B_ : List Nat) (hB_ : Ctx.owns [.bx b0_ 25 [v0_0], .bx b1_ 3 [.int .i64 p1], .bx b2_ 50 [.func (.func 44) #[] #[.pointer (some ⟨b0_, 0, none⟩), .pointer (some ⟨b1_, 0, none⟩), .pointer (some ⟨b2_, 0, none⟩)]]] = B_) (hn_ : PHanded w [.bx b0_ 25 [v0_0], .bx b1_ 3 [.int .i64 p1], .bx b2_ 50 [.func (.func 44) #[] #[.pointer (some ⟨b0_, 0, none⟩), .pointer (some ⟨b1_, 0, none⟩), .pointer (some ⟨b2_, 0, none⟩)]]]) (hp0_0 : Rd (fun k => k ∈ B_) w v0_0 p0) (r : (Tre) × (Int)) (hr : fixN (fun (rec_ : ((List Bool) × Int) → Option ((Tre) × (Int))) (a_ : (List Bool) × Int) => F_impl_treeOf_1_c0_step (fun p0 p1 => rec_ (p0, p1)) a_.1 a_.2) k_ (p0, p1) = some r),
  PtrCon Try.prog 44 [.pointer (some ⟨b0_, 0, none⟩), .pointer (some ⟨b1_, 0, none⟩), .pointer (some ⟨b2_, 0, none⟩)] w B_ (fun x_ : Value × List Nat => x_.1) (fun x_ => [.tkn x_.1 r.1 x_.2, .bx b0_ 25 [v0_0], .bx b1_ 3 [.int .i64 r.2], .bx b2_ 50 [.func (.func 44) #[] #[.pointer (some ⟨b0_, 0, none⟩), .pointer (some ⟨b1_, 0, none⟩), .pointer (some ⟨b2_, 0, none⟩)]]]) := by
 intro k_
 induction k_ with
 | zero => intro w b0_ p0 v0_0 b1_ p1 b2_ B_ hB_ hn_ hp0_0 r hr; cases hr
 | succ k_ ih_ =>
 intro w b0_ p0 v0_0 b1_ p1 b2_ B_ hB_ hn_ hp0_0 r hr
 replace hr : F_impl_treeOf_1_c0_step (fun p0 p1 => fixN (fun (rec_ : ((List Bool) × Int) → Option ((Tre) × (Int))) (a_ : (List Bool) × Int) => F_impl_treeOf_1_c0_step (fun p0 p1 => rec_ (p0, p1)) a_.1 a_.2) k_ (p0, p1)) p0 p1 = some r := hr
 refine PtrCon_of (v := fun (r : (Tre) × (Int)) (x_ : Value × List Nat) => x_.1) (fs := fun r x_ => [.tkn x_.1 r.1 x_.2, .bx b0_ 25 [v0_0], .bx b1_ 3 [.int .i64 r.2], .bx b2_ 50 [.func (.func 44) #[] #[.pointer (some ⟨b0_, 0, none⟩), .pointer (some ⟨b1_, 0, none⟩), .pointer (some ⟨b2_, 0, none⟩)]]]) Try.func44 rfl Try.ntmps44 rfl (show SH nowhere (bare w) w [.rd v0_0 p0, .bx b0_ 25 [v0_0], .bx b1_ 3 [.int .i64 p1], .bx b2_ 50 [.func (.func 44) #[] #[.pointer (some ⟨b0_, 0, none⟩), .pointer (some ⟨b1_, 0, none⟩), .pointer (some ⟨b2_, 0, none⟩)]], .tkn (.int .i64 0) (0 : Int) (restL w B_), rest w B_] from ((SH.begin hB_ hn_).cons_apart hB_ hp0_0)) rfl ?_ hr
 unfold F_impl_treeOf_1_c0_step
 refine J_sr ?_
 refine JL_ctx (fun w hh => hh.tr_nil) ?_
 refine JA rfl rfl ?_
 refine JL_nt ?_
 refine J_sr ?_
 refine JL_q wn rfl (ex_load_bx 2 ti_25 rfl rfl rfl) ?_
 refine JL_q wn rfl (ex_load_bx 3 ti_3 rfl rfl rfl) ?_
 refine JL_bnd fun y1 hy2 => ?_
 refine JL_st wn rfl (st_index 1 Try.underlying25 ti_4 rfl rfl rfl hy2) (fun q3 => ?_)
 refine JL_st wn rfl (st_load_pt_o 0 (opens_bool _) ti_4 rfl rfl) (fun _ => ?_)
 refine JA rfl rfl ?_
 refine JL_nt ?_
 refine J_sr ?_
 refine JL_q wn rfl (ex_load_bx 4 ti_3 rfl rfl rfl) ?_
 refine JL_q wn rfl (ex_add rfl rfl) ?_
 refine JL_sk wn (sk_store_bx' 4 ti_3 rfl rfl (fun w hh => cv_int) rfl rfl rfl rfl) ?_
 refine JL_nt ?_
 refine J_seq ?_
 refine J_sr ?_
 refine JM rfl rfl ?_
 refine JL_q wn rfl (ex_not rfl) ?_
 refine JL_nt ?_
 refine J_if rfl (fun h5 => ?_) (fun h5 => ?_)
 ·refine J_sr ?_
  refine JL_ctx (fun w hh => hh.tr_nil) ?_
  refine JA rfl rfl ?_
  refine JL_nt ?_
  refine J_ret ?_
  refine N_then_ret ?_
  refine N_ctx (fun w hh => hh.tr_nilT) ?_
  exact N_ret1 rfl (rv_tmp rfl) (fun w hh => ⟨((.pointer none), ([] : List Nat)), rfl, hh.sel [0, 5, 6, 7, 8, 9] rfl⟩)
 ·refine J_skip ?_
  refine N_then ?_
  refine J_sr ?_
  refine JL_q wn rfl (ex_load_bx 5 ti_50 rfl rfl rfl) ?_
  refine JL_bnd fun r6 hr7 => ?_
  refine JL_callvT (args := []) (caps := [.pointer (some ⟨b0_, 0, none⟩), .pointer (some ⟨b1_, 0, none⟩), .pointer (some ⟨b2_, 0, none⟩)]) wn rfl Try.call44 rfl rfl (CaT_of [3, 4, 5] [0, 1, 2, 6, 7] rfl rfl (fun _ => rfl) fun w hh => ih_ w b0_ p0 v0_0 b1_ (w64 (p1 + 1)) b2_ _ rfl (hh.handed [3, 4, 5] rfl rfl rfl rfl) (hh.apart [3, 4, 5] rfl (hh.rd 2 rfl)) _ hr7) (fun x8 => ?_)
  obtain ⟨x8_0, x8_1⟩ := x8
  refine JL_ctx (fun w hh => hh.tkn_rd 0 rfl) ?_
  refine JA rfl rfl ?_
  refine JL_nt ?_
  refine J_sr ?_
  refine JM rfl rfl ?_
  refine JL_q wn rfl (ex_load_bx 4 ti_50 rfl rfl rfl) ?_
  refine JL_bnd fun r9 hr10 => ?_
  refine JL_callvT (args := []) (caps := [.pointer (some ⟨b0_, 0, none⟩), .pointer (some ⟨b1_, 0, none⟩), .pointer (some ⟨b2_, 0, none⟩)]) wn rfl Try.call44 rfl rfl (CaT_of [2, 3, 4] [0, 1, 5, 6, 7, 8, 9] rfl rfl (fun _ => rfl) fun w hh => ih_ w b0_ p0 v0_0 b1_ r6.2 b2_ _ rfl (hh.handed [2, 3, 4] rfl rfl rfl rfl) (hh.apart [2, 3, 4] rfl (hh.rd 7 rfl)) _ hr10) (fun x11 => ?_)
  obtain ⟨x11_0, x11_1⟩ := x11
  refine JL_ctx (fun w hh => hh.tkn_rd 0 rfl) ?_
  refine JL_bnd fun r12 hr13 => ?_
  refine JL_call wn rfl Try.call45 rfl (Ca_self (fun _ => rfl) fun w hh => c_impl_pair _ w (fun _ hk => hk.elim) _ _ (hh.rd0 5 rfl) _ _ (hh.rd0 0 rfl) _ hr13) (fun x14 => ?_)
  refine JL_ctx (fun w hh => hh.tr_mkT 0 7 2 rfl rfl rfl rfl) ?_
  refine JA rfl rfl ?_
  refine JL_nt ?_
  refine J_ret ?_
  exact N_ret1 rfl (rv_tmp rfl) (fun w hh => ⟨((.pointer (some ⟨x14, 0, none⟩)), (x14 :: (x8_1 ++ x11_1))), rfl, hh.sel [0, 4, 5, 6, 12, 13] rfl⟩)
theorem c_impl_treeOf_1_c0 (w : World) (b0_ : Nat) (p0 : (List Bool)) (v0_0 : Value) (b1_ : Nat) (p1 : Int) (b2_ : Nat) (B_ : List Nat) (hB_ : Ctx.owns [.bx b0_ 25 [v0_0], .bx b1_ 3 [.int .i64 p1], .bx b2_ 50 [.func (.func 44) #[] #[.pointer (some ⟨b0_, 0, none⟩), .pointer (some ⟨b1_, 0, none⟩), .pointer (some ⟨b2_, 0, none⟩)]]] = B_) (hn_ : PHanded w [.bx b0_ 25 [v0_0], .bx b1_ 3 [.int .i64 p1], .bx b2_ 50 [.func (.func 44) #[] #[.pointer (some ⟨b0_, 0, none⟩), .pointer (some ⟨b1_, 0, none⟩), .pointer (some ⟨b2_, 0, none⟩)]]]) (hp0_0 : Rd (fun k => k ∈ B_) w v0_0 p0) (r : (Tre) × (Int)) (hr : F_impl_treeOf_1_c0 p0 p1 = some r) :
  PtrCon Try.prog 44 [.pointer (some ⟨b0_, 0, none⟩), .pointer (some ⟨b1_, 0, none⟩), .pointer (some ⟨b2_, 0, none⟩)] w B_ (fun x_ : Value × List Nat => x_.1) (fun x_ => [.tkn x_.1 r.1 x_.2, .bx b0_ 25 [v0_0], .bx b1_ 3 [.int .i64 r.2], .bx b2_ 50 [.func (.func 44) #[] #[.pointer (some ⟨b0_, 0, none⟩), .pointer (some ⟨b1_, 0, none⟩), .pointer (some ⟨b2_, 0, none⟩)]]]) := by
 obtain ⟨k_, hk_⟩ := fixR_some hr
 exact c_impl_treeOf_1_c0_ind k_ w b0_ p0 v0_0 b1_ p1 b2_ B_ hB_ hn_ hp0_0 r hk_
set_option maxHeartbeats 40000000 in
theorem c_impl_treeOf (A : Nat → Prop) (w : World) (hA : ∀ k, A k → k < w.heap.size) (v0_ : Value) (p0 : (List Bool)) (hp0 : Rd A w v0_ p0) (r : Tre) (hr : F_impl_treeOf p0 = some r) :
  Con Try.prog 20 [v0_] A w (fun x_ : Value => x_) (fun x_ => [.rd x_ r]) := by
 refine Con_of (v := fun (r : Tre) (x_ : Value) => x_) (fs := fun r x_ => [.rd x_ r]) Try.func20 rfl Try.ntmps20 rfl ((SH.start hA).start_rd rfl hp0) rfl ?_ hr
 unfold F_impl_treeOf
 refine J_sr ?_
 refine JL_st wn rfl (st_box' rfl (fun w hh => (hh.cv 0 rfl))) (fun b1 => ?_)
 refine JL_ctx (fun w hh => hh.tr_nil) ?_
 refine JA rfl rfl ?_
 refine JL_nt ?_
 refine J_sr ?_
 refine JL_st wn rfl (st_alloc zi_3 rfl) (fun b2 => ?_)
 refine JL_sk wn (sk_store_bx' 0 ti_3 rfl rfl (fun w hh => cv_int) rfl rfl rfl rfl) ?_
 refine JL_nt ?_
 refine J_sr ?_
 refine JL_st wn rfl (st_alloc zi_50 rfl) (fun b3 => ?_)
 refine JL_nt ?_
 refine J_sr ?_
 refine JL_q wn rfl (ex_makeFunc rfl) ?_
 refine JL_sk wn (sk_store_bx' 0 ti_50 rfl rfl (fun w hh => cv_fn) rfl rfl rfl rfl) ?_
 refine JL_nt ?_
 refine J_sr ?_
 refine JL_q wn rfl (ex_load_bx 0 ti_50 rfl rfl rfl) ?_
 refine JL_bnd fun r4 hr5 => ?_
 refine JL_callvT (args := []) (caps := [.pointer (some ⟨b1, 0, none⟩), .pointer (some ⟨b2, 0, none⟩), .pointer (some ⟨b3, 0, none⟩)]) wn rfl Try.call44 rfl rfl (CaT_of [3, 1, 0] [2, 4] rfl rfl (fun _ => rfl) fun w hh => c_impl_treeOf_1_c0 w b1 p0 v0_ b2 0 b3 _ rfl (hh.handed [3, 1, 0] rfl rfl rfl rfl) (hh.apart [3, 1, 0] rfl (hh.rd 4 rfl)) _ hr5) (fun x6 => ?_)
 obtain ⟨x6_0, x6_1⟩ := x6
 refine JL_ctx (fun w hh => hh.tkn_rd 0 rfl) ?_
 refine JA rfl rfl ?_
 refine JL_nt ?_
 refine J_ret ?_
 exact N_ret1 rfl (rv_tmp rfl) (fun w hh => ⟨x6_0, rfl, hh.sel [0] rfl⟩)
set_option maxHeartbeats 40000000 in
theorem c_impl_tagTree (A : Nat → Prop) (w : World) (hA : ∀ k, A k → k < w.heap.size) (p0 : Int) (r : Tre) (hr : F_impl_tagTree p0 = some r) :
  Con Try.prog 60 [.int .i64 p0] A w (fun x_ : Value => x_) (fun x_ => [.rd x_ r]) := by
 refine Con_of (v := fun (r : Tre) (x_ : Value) => x_) (fs := fun r x_ => [.rd x_ r]) Try.func60 rfl Try.ntmps60 rfl (SH.start hA) rfl ?_ hr
 unfold F_impl_tagTree
 refine J_sr ?_
 refine JL_ctx (fun w hh => hh.tr_nil) ?_
 refine JA rfl rfl ?_
 refine JL_nt ?_
 refine J_sr ?_
 refine JM rfl rfl ?_
 refine JL_bnd fun r1 hr2 => ?_
 refine JL_call wn rfl Try.call80 rfl (Ca_self (fun _ => rfl) fun w hh => c_impl_treeAt _ w (fun _ hk => hk.elim) _ _ hr2) (fun x3 => ?_)
 refine JL_bnd fun r4 hr5 => ?_
 refine JL_ctx (fun w hh => hh.tokf 0 rfl rfl) ?_
 refine JL_call wn rfl Try.call20 rfl (Ca_of (fun _ => rfl) fun w hh => c_impl_treeOf _ w hh.av' _ _ (hh.rd 1 rfl) _ hr5) (fun x6 => ?_)
 refine JA rfl rfl ?_
 refine JL_nt ?_
 refine J_ret ?_
 exact N_ret1 rfl (rv_tmp rfl) (fun w hh => ⟨x6, rfl, hh.sel [0] rfl⟩)
set_option maxHeartbeats 40000000 in
theorem c_impl_operands (A : Nat → Prop) (w : World) (hA : ∀ k, A k → k < w.heap.size) (v0_ : Value) (p0 : (List GExpr)) (hp0 : Rd A w v0_ p0) (r : (List (List GExpr))) (hr : F_impl_operands p0 = some r) :
  Con Try.prog 78 [v0_] A w (fun x_ : Value => x_) (fun x_ => [.ow 52 x_ r]) := by
 refine Con_of (v := fun (r : (List (List GExpr))) (x_ : Value) => x_) (fs := fun r x_ => [.ow 52 x_ r]) Try.func78 rfl Try.ntmps78 rfl ((SH.start hA).start_rd rfl hp0) rfl ?_ hr
 unfold F_impl_operands
 refine J_sr ?_
 refine JA rfl rfl ?_
 refine JL_nt ?_
 refine J_sr ?_
 refine JL_st wn rfl (st_buildSlice_od (vs := []) (B := ([] : List Nat)) ([] : List (List GExpr)) [] Try.underlying114 ti_52 zi_52 rfl rfl rfl rfl rfl (fun w hh => dwv_nil)) (fun b1 => ?_)
 refine JA rfl rfl ?_
 refine JA rfl rfl ?_
 refine JL_nt ?_
 refine J_seq ?_
 refine J_sr ?_
 refine JM rfl rfl ?_
 refine JL_bnd fun y2 hy3 => ?_
 refine JL_st wn rfl (st_index 1 Try.underlying52 ti_67 rfl rfl rfl hy3) (fun q4 => ?_)
 refine JL_st wn rfl (st_load_pt_o 0 (GExpr.opens _) ti_67 rfl rfl) (fun _ => ?_)
 refine JL_bnd fun r6 hr7 => ?_
 refine JL_call wn rfl Try.call81 rfl (Ca_of0 fun w hh => c_impl_exprFollow _ w (fun _ hk => hk.elim) _ _ (GExpr.rdmk (Rd.mk_int _ _ _) (Rd.mk_int _ _ _)) _ hr7) (fun _ => ?_)
 refine JM rfl rfl ?_
 refine JL_nt ?_
 refine J_ctx (fun w hh => hh.od_ow 1 rfl) ?_
 refine J_loop' (S := (List (List GExpr)) × Int × Int) (G := Value) (F_impl_operands_L1 p0 r6) (fun s8 g9 => [(0, v0_), (3, g9), (4, .int .i64 s8.2.1), (10, .int .i64 r6), (11, .int .i64 s8.2.2)]) (fun s8 g9 => [.rd v0_ p0, .ow 52 g9 s8.1]) (([] : List (List GExpr)), 1, 0) (.slice (some ⟨b1, 0, none⟩) 0 0) ⟨rfl, rfl, rfl, rfl, rfl, trivial⟩ [2, 1] rfl rfl (fun s8 g9 => ?_) (fun s8 g9 => ?_)
 ·unfold F_impl_operands_L1
  refine J_sr ?_
  refine JL_q wn rfl (ex_lss rfl rfl) ?_
  refine JL_nt ?_
  refine J_seq ?_
  refine J_if rfl (fun h10 => ?_) (fun h10 => ?_)
  ·refine J_skip ?_
   refine N_then ?_
   refine J_seq ?_
   refine J_block ?_
   refine J_sr ?_
   refine JM rfl rfl ?_
   refine JM rfl rfl ?_
   refine JL_bnd fun r11 hr12 => ?_
   refine JL_call wn rfl Try.call86 rfl (Ca_of0 fun w hh => c_impl_termEnd_impl_Expr _ w (fun _ hk => hk.elim) _ _ (hh.rd0 0 rfl) _ _ _ (Clo.mk (caps := []) Try.call81 (fun w_ hb_ v_ x_ r_ hrd_ hr_ => c_impl_exprFollow nowhere w_ (fun _ hk => hk.elim) v_ x_ hrd_  _ hr_)) _ hr12) (fun _ => ?_)
   refine JA rfl rfl ?_
   refine JL_nt ?_
   refine J_region ?_
   refine JM rfl rfl ?_
   refine JM rfl rfl ?_
   refine JM rfl rfl ?_
   refine JM rfl rfl ?_
   refine JL_bnd fun z13 hz14 => ?_
   refine JL_st wn rfl (st_slice 0 Try.underlying52 ti_67 rfl rfl rfl rfl hz14) (fun v15 => ?_)
   refine JL_st wn rfl (st_buildSlice (vs := [v15]) ([z13] : List (List GExpr)) Try.underlying114 ti_52 zi_52 rfl rfl rfl (fun w hh => ⟨(hh.rd 0 rfl), trivial⟩)) (fun b16 => ?_)
   refine JL_bnd fun z17 hz18 => ?_
   refine JL_st wn rfl (st_append 3 Try.underlying114 ti_52 zi_52 rfl bi_52 rfl rfl rfl rfl (fun w hh => hh.src_ow 0 rfl) hz18) (fun v19 => ?_)
   refine JM rfl rfl ?_
   refine JA rfl rfl ?_
   refine JA rfl rfl ?_
   refine JL_nil ?_
   refine N_block ?_
   refine N_then ?_
   refine J_region ?_
   refine JL_q wn rfl (ex_add rfl rfl) ?_
   refine JM rfl rfl ?_
   refine JL_nil ?_
   exact N_next' v19 ⟨rfl, rfl, rfl, rfl, rfl, trivial⟩ [2, 3] rfl rfl
  ·refine J_exit ?_
   refine N_then_exit ?_
   exact N_break' g9 ⟨rfl, rfl, rfl, rfl, rfl, trivial⟩ [0, 1] rfl rfl
 ·refine N_then ?_
  refine J_sr ?_
  refine JM rfl rfl ?_
  refine JA rfl rfl ?_
  refine JL_nt ?_
  refine J_ret ?_
  exact N_ret1 rfl (rv_tmp rfl) (fun w hh => ⟨g9, rfl, hh.sel [1] rfl⟩)
set_option maxHeartbeats 40000000 in
theorem c_impl_markOf (A : Nat → Prop) (w : World) (hA : ∀ k, A k → k < w.heap.size) (p0 : Int) (r : Int) (hr : F_impl_markOf p0 = some r) :
  Con Try.prog 79 [.int .i64 p0] A w (fun x_ : Unit => .int .i64 r) (fun x_ => []) := by
 refine Con_of (v := fun (r : Int) (x_ : Unit) => .int .i64 r) (fs := fun r x_ => []) Try.func79 rfl Try.ntmps79 rfl (SH.start hA) rfl ?_ hr
 unfold F_impl_markOf
 refine J_sr ?_
 refine JA rfl rfl ?_
 refine JL_nt ?_
 refine J_seq ?_
 refine J_sr ?_
 refine JM rfl rfl ?_
 refine JL_nt ?_
 refine J_block ?_
 refine J_sr ?_
 refine JL_q wn rfl (ex_eql rfl rfl) ?_
 refine JA rfl rfl ?_
 refine JL_nt ?_
 refine J_if rfl (fun h1 => ?_) (fun h1 => ?_)
 ·refine J_sr ?_
  refine JA rfl rfl ?_
  refine JL_nt ?_
  refine J_ret ?_
  refine N_block_ret ?_
  refine N_then_ret ?_
  exact N_ret1 rfl (rv_tmp rfl) (fun w hh => ⟨(), rfl, hh.sel [] rfl⟩)
 ·refine J_sr ?_
  refine JL_q wn rfl (ex_eql rfl rfl) ?_
  refine JA rfl rfl ?_
  refine JL_nt ?_
  refine J_if rfl (fun h2 => ?_) (fun h2 => ?_)
  ·refine J_sr ?_
   refine JA rfl rfl ?_
   refine JL_nt ?_
   refine J_ret ?_
   refine N_block_ret ?_
   refine N_then_ret ?_
   exact N_ret1 rfl (rv_tmp rfl) (fun w hh => ⟨(), rfl, hh.sel [] rfl⟩)
  ·refine J_sr ?_
   refine JL_q wn rfl (ex_eql rfl rfl) ?_
   refine JA rfl rfl ?_
   refine JL_nt ?_
   refine J_if rfl (fun h3 => ?_) (fun h3 => ?_)
   ·refine J_sr ?_
    refine JA rfl rfl ?_
    refine JL_nt ?_
    refine J_ret ?_
    refine N_block_ret ?_
    refine N_then_ret ?_
    exact N_ret1 rfl (rv_tmp rfl) (fun w hh => ⟨(), rfl, hh.sel [] rfl⟩)
   ·refine J_skip ?_
    refine N_block ?_
    refine N_then ?_
    refine J_sr ?_
    refine JA rfl rfl ?_
    refine JL_nt ?_
    refine J_ret ?_
    exact N_ret1 rfl (rv_tmp rfl) (fun w hh => ⟨(), rfl, hh.sel [] rfl⟩)
set_option maxHeartbeats 40000000 in
theorem c_impl_codeOfExpr_ind : ∀ (k_ : Nat) (A : Nat → Prop) (w : World) (hA : ∀ k, A k → k < w.heap.size) (v0_ : Value) (p0 : (List GExpr)) (hp0 : Rd A w v0_ p0) (r : Tre) (hr : fixN (fun (rec_ : (List GExpr) → Option (Tre)) (a_ : (List GExpr)) => F_impl_codeOfExpr_step (fun p0 => rec_ p0) a_) k_ p0 = some r),
  Con Try.prog 59 [v0_] A w (fun x_ : Value => x_) (fun x_ => [.rd x_ r]) := by
 intro k_
 induction k_ with
 | zero => intro A w hA v0_ p0 hp0 r hr; cases hr
 | succ k_ ih_ =>
 intro A w hA v0_ p0 hp0 r hr
 replace hr : F_impl_codeOfExpr_step (fun p0 => fixN (fun (rec_ : (List GExpr) → Option (Tre)) (a_ : (List GExpr)) => F_impl_codeOfExpr_step (fun p0 => rec_ p0) a_) k_ p0) p0 = some r := hr
 refine Con_of (v := fun (r : Tre) (x_ : Value) => x_) (fs := fun r x_ => [.rd x_ r]) Try.func59 rfl Try.ntmps59 rfl ((SH.start hA).start_rd rfl hp0) rfl ?_ hr
 unfold F_impl_codeOfExpr_step
 refine J_sr ?_
 refine JL_ctx (fun w hh => hh.tr_nil) ?_
 refine JA rfl rfl ?_
 refine JL_nt ?_
 refine J_seq ?_
 refine J_sr ?_
 refine JM rfl rfl ?_
 refine JL_bnd fun y1 hy2 => ?_
 refine JL_st wn rfl (st_index 1 Try.underlying52 ti_67 rfl rfl rfl hy2) (fun q3 => ?_)
 refine JL_st wn rfl (st_field_pt 0 (GExpr.at_Kind _) fi_67_0 rfl rfl rfl) (fun q4 => ?_)
 refine JL_st wn rfl (st_load_pt_o 0 (opens_int _) ti_2 rfl rfl) (fun _ => ?_)
 refine JL_nt ?_
 refine J_block ?_
 refine J_sr ?_
 refine JL_q wn rfl (ex_eql rfl rfl) ?_
 refine JA rfl rfl ?_
 refine JL_nt ?_
 refine J_if rfl (fun h6 => ?_) (fun h6 => ?_)
 ·refine J_sr ?_
  refine JL_bnd fun r7 hr8 => ?_
  refine JL_call wn rfl Try.call60 rfl (Ca_of (fun _ => rfl) fun w hh => c_impl_tagTree _ w hh.av' _ _ hr8) (fun x9 => ?_)
  refine JL_bnd fun r10 hr11 => ?_
  refine JL_call wn rfl Try.call45 rfl (Ca_self (fun _ => rfl) fun w hh => c_impl_pair _ w (fun _ hk => hk.elim) _ _ (hh.rd0 0 rfl) _ _ rdTrNil _ hr11) (fun x12 => ?_)
  refine JL_ctx (fun w hh => hh.tr_mk 0 rfl (hh.rd 1 rfl) rdTrNil) ?_
  refine JA rfl rfl ?_
  refine JL_nt ?_
  refine J_ret ?_
  refine N_block_ret ?_
  refine N_then_ret ?_
  exact N_ret1 rfl (rv_tmp rfl) (fun w hh => ⟨(.pointer (some ⟨x12, 0, none⟩)), rfl, hh.sel [0] rfl⟩)
 ·refine J_sr ?_
  refine JL_q wn rfl (ex_eql rfl rfl) ?_
  refine JA rfl rfl ?_
  refine JL_nt ?_
  refine J_if rfl (fun h13 => ?_) (fun h13 => ?_)
  ·refine J_sr ?_
   refine JL_bnd fun r14 hr15 => ?_
   refine JL_call wn rfl Try.call60 rfl (Ca_of (fun _ => rfl) fun w hh => c_impl_tagTree _ w hh.av' _ _ hr15) (fun x16 => ?_)
   refine JL_bnd fun r17 hr18 => ?_
   refine JL_call wn rfl Try.call45 rfl (Ca_self (fun _ => rfl) fun w hh => c_impl_pair _ w (fun _ hk => hk.elim) _ _ (hh.rd0 0 rfl) _ _ rdTrNil _ hr18) (fun x19 => ?_)
   refine JL_ctx (fun w hh => hh.tr_mk 0 rfl (hh.rd 1 rfl) rdTrNil) ?_
   refine JA rfl rfl ?_
   refine JL_nt ?_
   refine J_ret ?_
   refine N_block_ret ?_
   refine N_then_ret ?_
   exact N_ret1 rfl (rv_tmp rfl) (fun w hh => ⟨(.pointer (some ⟨x19, 0, none⟩)), rfl, hh.sel [0] rfl⟩)
  ·refine J_skip ?_
   refine N_block ?_
   refine N_then ?_
   refine J_sr ?_
   refine JM rfl rfl ?_
   refine JL_bnd fun r20 hr21 => ?_
   refine JL_call wn rfl Try.call78 rfl (Ca_of (fun _ => rfl) fun w hh => c_impl_operands _ w hh.av' _ _ (hh.rd 3 rfl) _ hr21) (fun x22 => ?_)
   refine JA rfl rfl ?_
   refine JL_nt ?_
   refine J_sr ?_
   refine JL_q wn rfl (ex_build si_67 rfl (.cons fi_67_0 rfl rfl .nil) (fun w hh => ⟨cv_int, trivial⟩)) ?_
   refine JL_st wn rfl (st_buildSlice (vs := [.agg #[.int .i64 0, .int .i64 0]]) ([(⟨0, 0⟩ : GExpr)] : List GExpr) Try.underlying52 ti_67 zi_67 rfl rfl rfl (fun w hh => ⟨(GExpr.rdmk (Rd.mk_int _ _ _) (Rd.mk_int _ _ _)), trivial⟩)) (fun b23 => ?_)
   refine JA rfl rfl ?_
   refine JL_nt ?_
   refine J_seq ?_
   refine J_cut' (S' := (List GExpr)) (G' := Value) (fun s24 g25 => [(0, v0_), (3, x22), (4, g25)]) (fun s24 g25 => [.rd v0_ p0, .ow 52 x22 r20, .rd g25 s24]) ?_ (fun s24 g25 => ?_)
   ·refine J_sr ?_
    refine JM rfl rfl ?_
    refine JL_q wn rfl (ex_len_ow 1 Try.underlying114 rfl rfl) ?_
    refine JL_q wn rfl (ex_eql rfl rfl) ?_
    refine JL_nt ?_
    refine J_if rfl (fun h26 => ?_) (fun h26 => ?_)
    ·refine J_region ?_
     refine JM rfl rfl ?_
     refine JL_bnd fun y27 hy28 => ?_
     refine JL_ow_open (v := x22) 1 rfl hy28 ?_; rintro b29 cap30 rfl
     refine JL_q wn rfl (ex_index_ow 1 Try.underlying114 ti_52 rfl rfl rfl hy28) ?_
     refine JL_st wn rfl (st_load_ow_o 1 (opens_sl _) ti_52 rfl rfl hy28) (fun v31 => ?_)
     refine JA rfl rfl ?_
     refine JL_nil ?_
     exact N_meet' v31 ⟨rfl, rfl, rfl, trivial⟩ [6, 2, 0] rfl rfl
    ·refine J_skip ?_
     refine N_ctx (fun w hh => hh.tokf 0 rfl rfl) ?_
     exact N_meet' (.slice (some ⟨b23, 0, none⟩) 1 1) ⟨rfl, rfl, rfl, trivial⟩ [6, 2, 1] rfl rfl
   ·refine N_then ?_
    refine J_sr ?_
    refine JM rfl rfl ?_
    refine JL_bnd fun y32 hy33 => ?_
    refine JL_st wn rfl (st_index 0 Try.underlying52 ti_67 rfl rfl rfl hy33) (fun q34 => ?_)
    refine JL_st wn rfl (st_field_pt 0 (GExpr.at_Kind _) fi_67_0 rfl rfl rfl) (fun q35 => ?_)
    refine JL_st wn rfl (st_load_pt_o 0 (opens_int _) ti_2 rfl rfl) (fun _ => ?_)
    refine JL_bnd fun r37 hr38 => ?_
    refine JL_call wn rfl Try.call79 rfl (Ca_of0 fun w hh => c_impl_markOf _ w (fun _ hk => hk.elim) _ _ hr38) (fun _ => ?_)
    refine JL_bnd fun r39 hr40 => ?_
    refine JL_call wn rfl Try.call60 rfl (Ca_of (fun _ => rfl) fun w hh => c_impl_tagTree _ w hh.av' _ _ hr40) (fun x41 => ?_)
    refine JL_bnd fun r42 hr43 => ?_
    refine JL_call wn rfl Try.call45 rfl (Ca_self (fun _ => rfl) fun w hh => c_impl_pair _ w (fun _ hk => hk.elim) _ _ (hh.rd0 0 rfl) _ _ rdTrNil _ hr43) (fun x44 => ?_)
    refine JL_ctx (fun w hh => hh.tr_mk 0 rfl (hh.rd 1 rfl) rdTrNil) ?_
    refine JA rfl rfl ?_
    refine JL_nt ?_
    refine J_seq ?_
    refine J_draw [5] (by kernel_rfl) ?_
    refine JP_take (i := 1) [0, 1, 2, 3, 4, 6] [5] rfl (by kernel_rfl) (by kernel_rfl) (by kernel_rfl) rfl rfl wn rfl (ex_move rfl) ?_
    refine JP_take (i := 2) [0, 1, 2, 3, 4, 6] [5] rfl (by kernel_rfl) (by kernel_rfl) (by kernel_rfl) rfl rfl wn rfl (ex_move rfl) ?_
    refine JP_bnd fun y45 hy46 => ?_
    refine JP_ow_open (v := x22) 5 rfl hy46 ?_; rintro b47 cap48 rfl
    refine JP_take (i := 3) [0, 1, 2, 3, 4, 6] [5] rfl (by kernel_rfl) (by kernel_rfl) (by kernel_rfl) rfl rfl wn rfl (ex_index_own Try.underlying114 ti_52 rfl rfl hy46 (by first | rfl | simp)) ?_
    refine JP_take (i := 6) [0, 1, 2, 3, 4, 6] [5] rfl (by kernel_rfl) (by kernel_rfl) (by kernel_rfl) rfl rfl wn rfl (ex_move rfl) ?_
    refine JP_go [0, 1, 2, 3, 4, 6] [5] rfl rfl rfl (fun w50 h1_51 hp49 => ?_)
    refine JD_bnd fun r52 hr53 => ?_
    refine JD_two (i := 0) (j := 4) (by kernel_rfl) ?_ ?_
    ·refine JO_call rfl wn rfl Try.call60 rfl (Ca_of (fun _ => rfl) fun w hh => c_impl_tagTree _ w hh.av' _ _ hr53) (fun x54 => ?_)
     refine JD_one (i := 4) (by kernel_rfl) ?_
     refine JO_st rfl wn rfl (st_load_ow_o 6 (opens_sl _) ti_52 rfl rfl hy46) (fun _ hk => nomatch hk) (fun v55 => ?_)
     refine JD_bnd fun r56 hr57 => ?_
     refine JD_one (i := 5) (by kernel_rfl) ?_
     refine JO_call rfl wn rfl Try.call59 rfl (Ca_of (fun _ => rfl) fun w hh => ih_ _ w hh.av' _ _ (hh.rd 0 rfl) _ hr57) (fun x58 => ?_)
     refine JD_bnd fun r59 hr60 => ?_
     refine JD_one (i := 7) (by kernel_rfl) ?_
     refine JO_call rfl wn rfl Try.call59 rfl (Ca_of (fun _ => rfl) fun w hh => ih_ _ w hh.av' _ _ (hh.rd 9 rfl) _ hr60) (fun x61 => ?_)
     refine JD_bnd fun r62 hr63 => ?_
     refine JD_one (i := 8) (by kernel_rfl) ?_
     refine JO_call rfl wn rfl Try.call45 rfl (Ca_self (fun _ => rfl) fun w hh => c_impl_pair _ w (fun _ hk => hk.elim) _ _ (hh.rd0 1 rfl) _ _ (hh.rd0 0 rfl) _ hr63) (fun x64 => ?_)
     refine JD_trmk 0 rfl (fun w hh => (hh.rd 2 rfl)) (fun w hh => (hh.rd 1 rfl)) ?_
     refine JD_bnd fun r65 hr66 => ?_
     refine JD_one (i := 9) (by kernel_rfl) ?_
     refine JO_call rfl wn rfl Try.call45 rfl (Ca_self (fun _ => rfl) fun w hh => c_impl_pair _ w (fun _ hk => hk.elim) _ _ (hh.rd0 5 rfl) _ _ (hh.rd0 0 rfl) _ hr66) (fun x67 => ?_)
     refine JD_trmk 0 rfl (fun w hh => (hh.rd 6 rfl)) (fun w hh => (hh.rd 1 rfl)) ?_
     refine JD_bnd fun r68 hr69 => ?_
     refine JD_one (i := 10) (by kernel_rfl) ?_
     refine JO_call rfl wn rfl Try.call45 rfl (Ca_self (fun _ => rfl) fun w hh => c_impl_pair _ w (fun _ hk => hk.elim) _ _ (hh.rd0 5 rfl) _ _ (hh.rd0 0 rfl) _ hr69) (fun x70 => ?_)
     refine JD_trmk 0 rfl (fun w hh => (hh.rd 6 rfl)) (fun w hh => (hh.rd 1 rfl)) ?_
     refine JD_take (i := 11) hp49 rfl (by kernel_rfl) (by kernel_rfl) (by kernel_rfl) wn rfl (ex_assign rfl) ?_
     refine JD_done (by kernel_rfl) ?_
     refine N_then ?_
     refine J_ret ?_
     exact N_ret1 rfl (rv_tmp rfl) (fun w hh => ⟨(.pointer (some ⟨x70, 0, none⟩)), rfl, hh.sel [0] rfl⟩)
    ·refine JO_st rfl wn rfl (st_load_ow_o 5 (opens_sl _) ti_52 rfl rfl hy46) (fun _ hk => nomatch hk) (fun v71 => ?_)
     refine JD_one (i := 0) (by kernel_rfl) ?_
     refine JO_call rfl wn rfl Try.call60 rfl (Ca_of (fun _ => rfl) fun w hh => c_impl_tagTree _ w hh.av' _ _ hr53) (fun x72 => ?_)
     refine JD_bnd fun r73 hr74 => ?_
     refine JD_one (i := 5) (by kernel_rfl) ?_
     refine JO_call rfl wn rfl Try.call59 rfl (Ca_of (fun _ => rfl) fun w hh => ih_ _ w hh.av' _ _ (hh.rd 1 rfl) _ hr74) (fun x75 => ?_)
     refine JD_bnd fun r76 hr77 => ?_
     refine JD_one (i := 7) (by kernel_rfl) ?_
     refine JO_call rfl wn rfl Try.call59 rfl (Ca_of (fun _ => rfl) fun w hh => ih_ _ w hh.av' _ _ (hh.rd 9 rfl) _ hr77) (fun x78 => ?_)
     refine JD_bnd fun r79 hr80 => ?_
     refine JD_one (i := 8) (by kernel_rfl) ?_
     refine JO_call rfl wn rfl Try.call45 rfl (Ca_self (fun _ => rfl) fun w hh => c_impl_pair _ w (fun _ hk => hk.elim) _ _ (hh.rd0 1 rfl) _ _ (hh.rd0 0 rfl) _ hr80) (fun x81 => ?_)
     refine JD_trmk 0 rfl (fun w hh => (hh.rd 2 rfl)) (fun w hh => (hh.rd 1 rfl)) ?_
     refine JD_bnd fun r82 hr83 => ?_
     refine JD_one (i := 9) (by kernel_rfl) ?_
     refine JO_call rfl wn rfl Try.call45 rfl (Ca_self (fun _ => rfl) fun w hh => c_impl_pair _ w (fun _ hk => hk.elim) _ _ (hh.rd0 5 rfl) _ _ (hh.rd0 0 rfl) _ hr83) (fun x84 => ?_)
     refine JD_trmk 0 rfl (fun w hh => (hh.rd 6 rfl)) (fun w hh => (hh.rd 1 rfl)) ?_
     refine JD_bnd fun r85 hr86 => ?_
     refine JD_one (i := 10) (by kernel_rfl) ?_
     refine JO_call rfl wn rfl Try.call45 rfl (Ca_self (fun _ => rfl) fun w hh => c_impl_pair _ w (fun _ hk => hk.elim) _ _ (hh.rd0 4 rfl) _ _ (hh.rd0 0 rfl) _ hr86) (fun x87 => ?_)
     refine JD_trmk 0 rfl (fun w hh => (hh.rd 5 rfl)) (fun w hh => (hh.rd 1 rfl)) ?_
     refine JD_take (i := 11) hp49 rfl (by kernel_rfl) (by kernel_rfl) (by kernel_rfl) wn rfl (ex_assign rfl) ?_
     refine JD_done (by kernel_rfl) ?_
     refine N_then ?_
     refine J_ret ?_
     exact N_ret1 rfl (rv_tmp rfl) (fun w hh => ⟨(.pointer (some ⟨x87, 0, none⟩)), rfl, hh.sel [0] rfl⟩)
theorem c_impl_codeOfExpr (A : Nat → Prop) (w : World) (hA : ∀ k, A k → k < w.heap.size) (v0_ : Value) (p0 : (List GExpr)) (hp0 : Rd A w v0_ p0) (r : Tre) (hr : F_impl_codeOfExpr p0 = some r) :
  Con Try.prog 59 [v0_] A w (fun x_ : Value => x_) (fun x_ => [.rd x_ r]) := by
 obtain ⟨k_, hk_⟩ := fixR_some hr
 exact c_impl_codeOfExpr_ind k_ A w hA v0_ p0 hp0 r hk_
set_option maxHeartbeats 40000000 in
theorem c_impl_treeOfList (A : Nat → Prop) (w : World) (hA : ∀ k, A k → k < w.heap.size) (v0_ : Value) (p0 : (List Tre)) (hp0 : Rd A w v0_ p0) (r : Tre) (hr : F_impl_treeOfList p0 = some r) :
  Con Try.prog 61 [v0_] A w (fun x_ : Value => x_) (fun x_ => [.rd x_ r]) := by
 refine Con_of (v := fun (r : Tre) (x_ : Value) => x_) (fs := fun r x_ => [.rd x_ r]) Try.func61 rfl Try.ntmps61 rfl ((SH.start hA).start_rd rfl hp0) rfl ?_ hr
 unfold F_impl_treeOfList
 refine J_sr ?_
 refine JL_ctx (fun w hh => hh.tr_nil) ?_
 refine JA rfl rfl ?_
 refine JL_nt ?_
 refine J_sr ?_
 refine JL_ctx (fun w hh => hh.tr_nil) ?_
 refine JA rfl rfl ?_
 refine JL_nt ?_
 refine J_seq ?_
 refine J_sr ?_
 refine JM rfl rfl ?_
 refine JL_q wn rfl (ex_len_rd 2 Try.underlying92 rfl rfl) ?_
 refine JL_q wn rfl (ex_sub rfl rfl) ?_
 refine JA rfl rfl ?_
 refine JL_nt ?_
 refine J_loop' (S := Tre × Int) (G := Value) (F_impl_treeOfList_L1 p0) (fun s1 g2 => [(0, v0_), (3, g2), (4, .int .i64 s1.2)]) (fun s1 g2 => [.rd v0_ p0, .rd g2 s1.1]) (Tre.nil, (w64 ((p0.length : Int) - 1))) (.pointer none) ⟨rfl, rfl, rfl, trivial⟩ [2, 0] rfl rfl (fun s1 g2 => ?_) (fun s1 g2 => ?_)
 ·unfold F_impl_treeOfList_L1
  refine J_seq ?_
  refine J_sr ?_
  refine JM rfl rfl ?_
  refine JL_q wn rfl (ex_geq rfl rfl) ?_
  refine JL_nt ?_
  refine J_if rfl (fun h3 => ?_) (fun h3 => ?_)
  ·refine J_skip ?_
   refine N_then ?_
   refine J_seq ?_
   refine J_block ?_
   refine J_region ?_
   refine JM rfl rfl ?_
   refine JM rfl rfl ?_
   refine JL_bnd fun y4 hy5 => ?_
   refine JL_st wn rfl (st_index 0 Try.underlying92 ti_41 rfl rfl rfl hy5) (fun q6 => ?_)
   refine JL_st wn rfl (st_load_pt_o 0 (opens_tr _) ti_41 rfl rfl) (fun v7 => ?_)
   refine JM rfl rfl ?_
   refine JL_bnd fun r8 hr9 => ?_
   refine JL_call wn rfl Try.call45 rfl (Ca_self (fun _ => rfl) fun w hh => c_impl_pair _ w (fun _ hk => hk.elim) _ _ (hh.rd0 0 rfl) _ _ (hh.rd0 3 rfl) _ hr9) (fun x10 => ?_)
   refine JL_ctx (fun w hh => hh.tr_mk 0 rfl (hh.rd 1 rfl) (hh.rd 4 rfl)) ?_
   refine JA rfl rfl ?_
   refine JL_nil ?_
   refine N_block ?_
   refine N_then ?_
   refine J_region ?_
   refine JM rfl rfl ?_
   refine JL_q wn rfl (ex_sub rfl rfl) ?_
   refine JA rfl rfl ?_
   refine JL_nil ?_
   exact N_next' (.pointer (some ⟨x10, 0, none⟩)) ⟨rfl, rfl, rfl, trivial⟩ [3, 0] rfl rfl
  ·refine J_exit ?_
   refine N_then_exit ?_
   exact N_break' g2 ⟨rfl, rfl, rfl, trivial⟩ [0, 1] rfl rfl
 ·refine N_then ?_
  refine J_sr ?_
  refine JM rfl rfl ?_
  refine JA rfl rfl ?_
  refine JL_nt ?_
  refine J_ret ?_
  exact N_ret1 rfl (rv_tmp rfl) (fun w hh => ⟨g2, rfl, hh.sel [1] rfl⟩)
set_option maxHeartbeats 40000000 in
theorem c_impl_codeOfWhile_ind : ∀ (k_ : Nat) (A : Nat → Prop) (w : World) (hA : ∀ k, A k → k < w.heap.size) (v0_ : Value) (p0 : (List GCommand)) (hp0 : Rd A w v0_ p0) (r : Tre) (hr : fixN (fun (rec_ : (List GCommand) → Option (Tre)) (a_ : (List GCommand)) => F_impl_codeOfWhile_step (fun p0 => rec_ p0) a_) k_ p0 = some r),
  Con Try.prog 36 [v0_] A w (fun x_ : Value => x_) (fun x_ => [.rd x_ r]) := by
 intro k_
 induction k_ with
 | zero => intro A w hA v0_ p0 hp0 r hr; cases hr
 | succ k_ ih_ =>
 intro A w hA v0_ p0 hp0 r hr
 replace hr : F_impl_codeOfWhile_step (fun p0 => fixN (fun (rec_ : (List GCommand) → Option (Tre)) (a_ : (List GCommand)) => F_impl_codeOfWhile_step (fun p0 => rec_ p0) a_) k_ p0) p0 = some r := hr
 refine Con_of (v := fun (r : Tre) (x_ : Value) => x_) (fs := fun r x_ => [.rd x_ r]) Try.func36 rfl Try.ntmps36 rfl ((SH.start hA).start_rd rfl hp0) rfl ?_ hr
 unfold F_impl_codeOfWhile_step
 refine J_sr ?_
 refine JL_ctx (fun w hh => hh.tr_nil) ?_
 refine JA rfl rfl ?_
 refine JL_nt ?_
 refine J_sr ?_
 refine JL_st wn rfl (st_buildSlice_od (vs := []) (B := ([] : List Nat)) ([] : List Tre) [] Try.underlying92 ti_41 zi_41 rfl rfl rfl rfl rfl (fun w hh => dwv_nil)) (fun b1 => ?_)
 refine JL_st wn rfl (st_alloc zi_92 rfl) (fun b2 => ?_)
 refine JL_sk wn (sk_store_bx' 0 ti_92 rfl rfl (fun w hh => (hh.cv_od 1 rfl)) rfl rfl rfl rfl) ?_
 refine JL_nt ?_
 refine J_sr ?_
 refine JM rfl rfl ?_
 refine JL_q wn rfl (ex_makeFunc rfl) ?_
 refine JL_inline wn rfl Try.call57 rfl Try.func57 rfl Try.ntmps57 rfl rfl (fun K_ hK3 => ?_)
 refine J_sr ?_
 refine JA rfl rfl ?_
 refine JL_nt ?_
 refine J_ctx (fun w hh => hh.od_ow 1 rfl) ?_
 refine J_loop' (S := (List Tre) × Int) (G := Value) (F_impl_codeOfWhile_L1 p0 (fun p0 => fixN (fun (rec_ : (List GCommand) → Option (Tre)) (a_ : (List GCommand)) => F_impl_codeOfWhile_step (fun p0 => rec_ p0) a_) k_ p0)) (fun s4 g5 => [(0, v0_), (1, .func (.func 58) #[] #[.pointer (some ⟨b2, 0, none⟩)]), (4, .int .i64 s4.2)]) (fun s4 g5 => [.rd v0_ p0, .ow 41 g5 s4.1, .bx b2 92 [g5]]) (([] : List Tre), 0) (.slice (some ⟨b1, 0, none⟩) 0 0) ⟨rfl, rfl, rfl, trivial⟩ [3, 1, 0] rfl rfl (fun s4 g5 => ?_) (fun s4 g5 => ?_)
 ·unfold F_impl_codeOfWhile_L1
  refine J_seq ?_
  refine J_sr ?_
  refine JM rfl rfl ?_
  refine JM rfl rfl ?_
  refine JL_q wn rfl (ex_len_rd 0 Try.underlying24 rfl rfl) ?_
  refine JL_q wn rfl (ex_lss rfl rfl) ?_
  refine JL_nt ?_
  refine J_if rfl (fun h6 => ?_) (fun h6 => ?_)
  ·refine J_skip ?_
   refine N_then ?_
   refine J_seq ?_
   refine J_block ?_
   refine J_sr ?_
   refine JM rfl rfl ?_
   refine JM rfl rfl ?_
   refine JL_q wn rfl (ex_add rfl rfl) ?_
   refine JM rfl rfl ?_
   refine JL_q wn rfl (ex_add rfl rfl) ?_
   refine JM rfl rfl ?_
   refine JM rfl rfl ?_
   refine JL_bnd fun y7 hy8 => ?_
   refine JL_st wn rfl (st_index 0 Try.underlying24 ti_54 rfl rfl rfl hy8) (fun q9 => ?_)
   refine JL_st wn rfl (st_field_pt 0 (GCommand.at_Length _) fi_54_2 rfl rfl rfl) (fun q10 => ?_)
   refine JL_st wn rfl (st_load_pt_o 0 (opens_int _) ti_2 rfl rfl) (fun _ => ?_)
   refine JL_q wn rfl (ex_add rfl rfl) ?_
   refine JL_bnd fun z12 hz13 => ?_
   refine JL_st wn rfl (st_slice 2 Try.underlying24 ti_54 rfl rfl rfl rfl hz13) (fun v14 => ?_)
   refine JA rfl rfl ?_
   refine JL_nt ?_
   refine J_sr ?_
   refine JM rfl rfl ?_
   refine JM rfl rfl ?_
   refine JM rfl rfl ?_
   refine JL_bnd fun y15 hy16 => ?_
   refine JL_st wn rfl (st_index 3 Try.underlying24 ti_54 rfl rfl rfl hy16) (fun q17 => ?_)
   refine JL_st wn rfl (st_load_pt_o 0 (GCommand.opens _) ti_54 rfl rfl) (fun v18 => ?_)
   refine JM rfl rfl ?_
   refine JL_inlinev (args := [_, _]) (caps := [.pointer (some ⟨b2, 0, none⟩)]) wn rfl Try.call58 rfl rfl Try.func58 rfl Try.ntmps58 rfl rfl (fun K_ hK19 => ?_)
   refine J_sr ?_
   refine JL_st wn rfl (st_box' rfl (fun w hh => (cv_aggs ⟨cv_int, cv_int, cv_int, (hh.cv 0 rfl), trivial⟩))) (fun b20 => ?_)
   refine JL_nt ?_
   refine J_sr ?_
   refine JL_q wn rfl (ex_fieldAddr fi_54_3 rfl rfl) ?_
   refine JL_q wn rfl (ex_load_bx 0 ti_52 rfl rfl rfl) ?_
   refine JL_bnd fun r21 hr22 => ?_
   refine JL_call wn rfl Try.call59 rfl (Ca_of (fun _ => rfl) fun w hh => c_impl_codeOfExpr _ w hh.av' _ _ (hh.rd 1 rfl) _ hr22) (fun x23 => ?_)
   refine JA rfl rfl ?_
   refine JL_nt ?_
   refine J_sr ?_
   refine JL_q wn rfl (ex_fieldAddr fi_54_0 rfl rfl) ?_
   refine JL_q wn rfl (ex_load_bx 1 ti_2 rfl rfl rfl) ?_
   refine JL_q wn rfl (ex_eql rfl rfl) ?_
   refine JL_nt ?_
   refine J_if rfl (fun h24 => ?_) (fun h24 => ?_)
   ·refine J_draw [8, 9] (by kernel_rfl) ?_
    refine JP_take (i := 2) [0, 1, 2, 3, 4, 5, 6, 7] [8, 9] rfl (by kernel_rfl) (by kernel_rfl) (by kernel_rfl) rfl rfl wn rfl (ex_move rfl) ?_
    refine JP_go [0, 1, 2, 3, 4, 5, 6, 7] [8, 9] rfl rfl rfl (fun w26 h1_27 hp25 => ?_)
    refine JD_bnd fun r28 hr29 => ?_
    refine JD_two (i := 0) (j := 1) (by kernel_rfl) ?_ ?_
    ·refine JO_q rfl wn rfl (ex_load_bx 9 ti_92 rfl rfl rfl) ?_
     refine JD_one (i := 1) (by kernel_rfl) ?_
     refine JO_call rfl wn rfl Try.call60 rfl (Ca_of (fun _ => rfl) fun w hh => c_impl_tagTree _ w hh.av' _ _ hr29) (fun x30 => ?_)
     refine JD_bnd fun r31 hr32 => ?_
     refine JD_one (i := 3) (by kernel_rfl) ?_
     refine JO_call rfl wn rfl Try.call45 rfl (Ca_self (fun _ => rfl) fun w hh => c_impl_pair _ w (fun _ hk => hk.elim) _ _ (hh.rd0 0 rfl) _ _ (hh.rd0 1 rfl) _ hr32) (fun x33 => ?_)
     refine JD_trmk 0 rfl (fun w hh => (hh.rd 1 rfl)) (fun w hh => (hh.rd 2 rfl)) ?_
     refine JD_one (i := 4) (by kernel_rfl) ?_
     refine JO_st rfl wn rfl (st_buildSlice (vs := [(.pointer (some ⟨x33, 0, none⟩))]) ([(Tre.node r28 r21 r31)] : List Tre) Try.underlying92 ti_41 zi_41 rfl rfl rfl (fun w hh => ⟨(hh.rd 0 rfl), trivial⟩)) (fun _ hk => nomatch hk) (fun b34 => ?_)
     refine JD_bnd fun z35 hz36 => ?_
     refine JD_one (i := 5) (by kernel_rfl) ?_
     refine JO_st rfl wn rfl (st_append 11 Try.underlying92 ti_41 zi_41 rfl bi_41 rfl rfl rfl rfl (fun w hh => hh.src_ow 0 rfl) hz36) (sub_ow 0 rfl) (fun v37 => ?_)
     refine JD_one (i := 6) (by kernel_rfl) ?_
     refine JO_sk rfl wn (sk_store_bx' 12 ti_92 rfl rfl (fun w hh => (hh.cv_ow 11 rfl)) rfl rfl rfl rfl) (sub_bx 1 rfl) ?_
     refine JD_done (by kernel_rfl) ?_
     refine N_inl0 (.inr rfl) hK19 rfl ?_
     refine JL_nt ?_
     refine J_region ?_
     refine JM rfl rfl ?_
     refine JM rfl rfl ?_
     refine JL_q wn rfl (ex_len_rd 7 Try.underlying24 rfl rfl) ?_
     refine JL_q wn rfl (ex_add rfl rfl) ?_
     refine JA rfl rfl ?_
     refine JL_nil ?_
     refine N_block ?_
     refine N_then ?_
     refine J_region ?_
     refine JM rfl rfl ?_
     refine JL_q wn rfl (ex_add rfl rfl) ?_
     refine JA rfl rfl ?_
     refine JL_nil ?_
     exact N_next' v37 ⟨rfl, rfl, rfl, trivial⟩ [10, 11, 12] rfl rfl
    ·refine JO_call rfl wn rfl Try.call60 rfl (Ca_of (fun _ => rfl) fun w hh => c_impl_tagTree _ w hh.av' _ _ hr29) (fun x38 => ?_)
     refine JD_bnd fun r39 hr40 => ?_
     refine JD_two (i := 0) (j := 3) (by kernel_rfl) ?_ ?_
     ·refine JO_q rfl wn rfl (ex_load_bx 10 ti_92 rfl rfl rfl) ?_
      refine JD_one (i := 3) (by kernel_rfl) ?_
      refine JO_call rfl wn rfl Try.call45 rfl (Ca_self (fun _ => rfl) fun w hh => c_impl_pair _ w (fun _ hk => hk.elim) _ _ (hh.rd0 0 rfl) _ _ (hh.rd0 1 rfl) _ hr40) (fun x41 => ?_)
      refine JD_trmk 0 rfl (fun w hh => (hh.rd 1 rfl)) (fun w hh => (hh.rd 2 rfl)) ?_
      refine JD_one (i := 4) (by kernel_rfl) ?_
      refine JO_st rfl wn rfl (st_buildSlice (vs := [(.pointer (some ⟨x41, 0, none⟩))]) ([(Tre.node r28 r21 r39)] : List Tre) Try.underlying92 ti_41 zi_41 rfl rfl rfl (fun w hh => ⟨(hh.rd 0 rfl), trivial⟩)) (fun _ hk => nomatch hk) (fun b42 => ?_)
      refine JD_bnd fun z43 hz44 => ?_
      refine JD_one (i := 5) (by kernel_rfl) ?_
      refine JO_st rfl wn rfl (st_append 11 Try.underlying92 ti_41 zi_41 rfl bi_41 rfl rfl rfl rfl (fun w hh => hh.src_ow 0 rfl) hz44) (sub_ow 0 rfl) (fun v45 => ?_)
      refine JD_one (i := 6) (by kernel_rfl) ?_
      refine JO_sk rfl wn (sk_store_bx' 12 ti_92 rfl rfl (fun w hh => (hh.cv_ow 11 rfl)) rfl rfl rfl rfl) (sub_bx 1 rfl) ?_
      refine JD_done (by kernel_rfl) ?_
      refine N_inl0 (.inr rfl) hK19 rfl ?_
      refine JL_nt ?_
      refine J_region ?_
      refine JM rfl rfl ?_
      refine JM rfl rfl ?_
      refine JL_q wn rfl (ex_len_rd 7 Try.underlying24 rfl rfl) ?_
      refine JL_q wn rfl (ex_add rfl rfl) ?_
      refine JA rfl rfl ?_
      refine JL_nil ?_
      refine N_block ?_
      refine N_then ?_
      refine J_region ?_
      refine JM rfl rfl ?_
      refine JL_q wn rfl (ex_add rfl rfl) ?_
      refine JA rfl rfl ?_
      refine JL_nil ?_
      exact N_next' v45 ⟨rfl, rfl, rfl, trivial⟩ [10, 11, 12] rfl rfl
     ·refine JO_call rfl wn rfl Try.call45 rfl (Ca_self (fun _ => rfl) fun w hh => c_impl_pair _ w (fun _ hk => hk.elim) _ _ (hh.rd0 0 rfl) _ _ (hh.rd0 1 rfl) _ hr40) (fun x46 => ?_)
      refine JD_trmk 0 rfl (fun w hh => (hh.rd 1 rfl)) (fun w hh => (hh.rd 2 rfl)) ?_
      refine JD_two (i := 0) (j := 4) (by kernel_rfl) ?_ ?_
      ·refine JO_q rfl wn rfl (ex_load_bx 11 ti_92 rfl rfl rfl) ?_
       refine JD_one (i := 4) (by kernel_rfl) ?_
       refine JO_st rfl wn rfl (st_buildSlice (vs := [(.pointer (some ⟨x46, 0, none⟩))]) ([(Tre.node r28 r21 r39)] : List Tre) Try.underlying92 ti_41 zi_41 rfl rfl rfl (fun w hh => ⟨(hh.rd 0 rfl), trivial⟩)) (fun _ hk => nomatch hk) (fun b47 => ?_)
       refine JD_bnd fun z48 hz49 => ?_
       refine JD_one (i := 5) (by kernel_rfl) ?_
       refine JO_st rfl wn rfl (st_append 11 Try.underlying92 ti_41 zi_41 rfl bi_41 rfl rfl rfl rfl (fun w hh => hh.src_ow 0 rfl) hz49) (sub_ow 0 rfl) (fun v50 => ?_)
       refine JD_one (i := 6) (by kernel_rfl) ?_
       refine JO_sk rfl wn (sk_store_bx' 12 ti_92 rfl rfl (fun w hh => (hh.cv_ow 11 rfl)) rfl rfl rfl rfl) (sub_bx 1 rfl) ?_
       refine JD_done (by kernel_rfl) ?_
       refine N_inl0 (.inr rfl) hK19 rfl ?_
       refine JL_nt ?_
       refine J_region ?_
       refine JM rfl rfl ?_
       refine JM rfl rfl ?_
       refine JL_q wn rfl (ex_len_rd 7 Try.underlying24 rfl rfl) ?_
       refine JL_q wn rfl (ex_add rfl rfl) ?_
       refine JA rfl rfl ?_
       refine JL_nil ?_
       refine N_block ?_
       refine N_then ?_
       refine J_region ?_
       refine JM rfl rfl ?_
       refine JL_q wn rfl (ex_add rfl rfl) ?_
       refine JA rfl rfl ?_
       refine JL_nil ?_
       exact N_next' v50 ⟨rfl, rfl, rfl, trivial⟩ [10, 11, 12] rfl rfl
      ·refine JO_st rfl wn rfl (st_buildSlice (vs := [(.pointer (some ⟨x46, 0, none⟩))]) ([(Tre.node r28 r21 r39)] : List Tre) Try.underlying92 ti_41 zi_41 rfl rfl rfl (fun w hh => ⟨(hh.rd 0 rfl), trivial⟩)) (fun _ hk => nomatch hk) (fun b51 => ?_)
       refine JD_one (i := 0) (by kernel_rfl) ?_
       refine JO_q rfl wn rfl (ex_load_bx 12 ti_92 rfl rfl rfl) ?_
       refine JD_bnd fun z52 hz53 => ?_
       refine JD_one (i := 5) (by kernel_rfl) ?_
       refine JO_st rfl wn rfl (st_append 11 Try.underlying92 ti_41 zi_41 rfl bi_41 rfl rfl rfl rfl (fun w hh => hh.src_ow 0 rfl) hz53) (sub_ow 0 rfl) (fun v54 => ?_)
       refine JD_one (i := 6) (by kernel_rfl) ?_
       refine JO_sk rfl wn (sk_store_bx' 12 ti_92 rfl rfl (fun w hh => (hh.cv_ow 11 rfl)) rfl rfl rfl rfl) (sub_bx 1 rfl) ?_
       refine JD_done (by kernel_rfl) ?_
       refine N_inl0 (.inr rfl) hK19 rfl ?_
       refine JL_nt ?_
       refine J_region ?_
       refine JM rfl rfl ?_
       refine JM rfl rfl ?_
       refine JL_q wn rfl (ex_len_rd 7 Try.underlying24 rfl rfl) ?_
       refine JL_q wn rfl (ex_add rfl rfl) ?_
       refine JA rfl rfl ?_
       refine JL_nil ?_
       refine N_block ?_
       refine N_then ?_
       refine J_region ?_
       refine JM rfl rfl ?_
       refine JL_q wn rfl (ex_add rfl rfl) ?_
       refine JA rfl rfl ?_
       refine JL_nil ?_
       exact N_next' v54 ⟨rfl, rfl, rfl, trivial⟩ [10, 11, 12] rfl rfl
   ·refine J_draw [8, 9] (by kernel_rfl) ?_
    refine JP_take (i := 2) [0, 1, 2, 3, 4, 5, 6, 7] [8, 9] rfl (by kernel_rfl) (by kernel_rfl) (by kernel_rfl) rfl rfl wn rfl (ex_move rfl) ?_
    refine JP_take (i := 3) [0, 1, 2, 3, 4, 5, 6, 7] [8, 9] rfl (by kernel_rfl) (by kernel_rfl) (by kernel_rfl) rfl rfl wn rfl (ex_move rfl) ?_
    refine JP_go [0, 1, 2, 3, 4, 5, 6, 7] [8, 9] rfl rfl rfl (fun w56 h1_57 hp55 => ?_)
    refine JD_bnd fun r58 hr59 => ?_
    refine JD_two (i := 0) (j := 1) (by kernel_rfl) ?_ ?_
    ·refine JO_q rfl wn rfl (ex_load_bx 9 ti_92 rfl rfl rfl) ?_
     refine JD_one (i := 1) (by kernel_rfl) ?_
     refine JO_call rfl wn rfl Try.call60 rfl (Ca_of (fun _ => rfl) fun w hh => c_impl_tagTree _ w hh.av' _ _ hr59) (fun x60 => ?_)
     refine JD_bnd fun r61 hr62 => ?_
     refine JD_one (i := 4) (by kernel_rfl) ?_
     refine JO_call rfl wn rfl Try.call36 rfl (Ca_of (fun _ => rfl) fun w hh => ih_ _ w hh.av' _ _ (hh.rd 5 rfl) _ hr62) (fun x63 => ?_)
     refine JD_bnd fun r64 hr65 => ?_
     refine JD_one (i := 5) (by kernel_rfl) ?_
     refine JO_call rfl wn rfl Try.call45 rfl (Ca_self (fun _ => rfl) fun w hh => c_impl_pair _ w (fun _ hk => hk.elim) _ _ (hh.rd0 2 rfl) _ _ (hh.rd0 0 rfl) _ hr65) (fun x66 => ?_)
     refine JD_trmk 0 rfl (fun w hh => (hh.rd 3 rfl)) (fun w hh => (hh.rd 1 rfl)) ?_
     refine JD_bnd fun r67 hr68 => ?_
     refine JD_one (i := 6) (by kernel_rfl) ?_
     refine JO_call rfl wn rfl Try.call45 rfl (Ca_self (fun _ => rfl) fun w hh => c_impl_pair _ w (fun _ hk => hk.elim) _ _ (hh.rd0 2 rfl) _ _ (hh.rd0 0 rfl) _ hr68) (fun x69 => ?_)
     refine JD_trmk 0 rfl (fun w hh => (hh.rd 3 rfl)) (fun w hh => (hh.rd 1 rfl)) ?_
     refine JD_one (i := 7) (by kernel_rfl) ?_
     refine JO_st rfl wn rfl (st_buildSlice (vs := [(.pointer (some ⟨x69, 0, none⟩))]) ([(Tre.node r58 (Tre.node r21 r61 r64) r67)] : List Tre) Try.underlying92 ti_41 zi_41 rfl rfl rfl (fun w hh => ⟨(hh.rd 0 rfl), trivial⟩)) (fun _ hk => nomatch hk) (fun b70 => ?_)
     refine JD_bnd fun z71 hz72 => ?_
     refine JD_one (i := 8) (by kernel_rfl) ?_
     refine JO_st rfl wn rfl (st_append 13 Try.underlying92 ti_41 zi_41 rfl bi_41 rfl rfl rfl rfl (fun w hh => hh.src_ow 0 rfl) hz72) (sub_ow 0 rfl) (fun v73 => ?_)
     refine JD_one (i := 9) (by kernel_rfl) ?_
     refine JO_sk rfl wn (sk_store_bx' 14 ti_92 rfl rfl (fun w hh => (hh.cv_ow 13 rfl)) rfl rfl rfl rfl) (sub_bx 1 rfl) ?_
     refine JD_done (by kernel_rfl) ?_
     refine N_inl0 (.inr rfl) hK19 rfl ?_
     refine JL_nt ?_
     refine J_region ?_
     refine JM rfl rfl ?_
     refine JM rfl rfl ?_
     refine JL_q wn rfl (ex_len_rd 9 Try.underlying24 rfl rfl) ?_
     refine JL_q wn rfl (ex_add rfl rfl) ?_
     refine JA rfl rfl ?_
     refine JL_nil ?_
     refine N_block ?_
     refine N_then ?_
     refine J_region ?_
     refine JM rfl rfl ?_
     refine JL_q wn rfl (ex_add rfl rfl) ?_
     refine JA rfl rfl ?_
     refine JL_nil ?_
     exact N_next' v73 ⟨rfl, rfl, rfl, trivial⟩ [12, 13, 14] rfl rfl
    ·refine JO_call rfl wn rfl Try.call60 rfl (Ca_of (fun _ => rfl) fun w hh => c_impl_tagTree _ w hh.av' _ _ hr59) (fun x74 => ?_)
     refine JD_bnd fun r75 hr76 => ?_
     refine JD_two (i := 0) (j := 4) (by kernel_rfl) ?_ ?_
     ·refine JO_q rfl wn rfl (ex_load_bx 10 ti_92 rfl rfl rfl) ?_
      refine JD_one (i := 4) (by kernel_rfl) ?_
      refine JO_call rfl wn rfl Try.call36 rfl (Ca_of (fun _ => rfl) fun w hh => ih_ _ w hh.av' _ _ (hh.rd 5 rfl) _ hr76) (fun x77 => ?_)
      refine JD_bnd fun r78 hr79 => ?_
      refine JD_one (i := 5) (by kernel_rfl) ?_
      refine JO_call rfl wn rfl Try.call45 rfl (Ca_self (fun _ => rfl) fun w hh => c_impl_pair _ w (fun _ hk => hk.elim) _ _ (hh.rd0 2 rfl) _ _ (hh.rd0 0 rfl) _ hr79) (fun x80 => ?_)
      refine JD_trmk 0 rfl (fun w hh => (hh.rd 3 rfl)) (fun w hh => (hh.rd 1 rfl)) ?_
      refine JD_bnd fun r81 hr82 => ?_
      refine JD_one (i := 6) (by kernel_rfl) ?_
      refine JO_call rfl wn rfl Try.call45 rfl (Ca_self (fun _ => rfl) fun w hh => c_impl_pair _ w (fun _ hk => hk.elim) _ _ (hh.rd0 2 rfl) _ _ (hh.rd0 0 rfl) _ hr82) (fun x83 => ?_)
      refine JD_trmk 0 rfl (fun w hh => (hh.rd 3 rfl)) (fun w hh => (hh.rd 1 rfl)) ?_
      refine JD_one (i := 7) (by kernel_rfl) ?_
      refine JO_st rfl wn rfl (st_buildSlice (vs := [(.pointer (some ⟨x83, 0, none⟩))]) ([(Tre.node r58 (Tre.node r21 r75 r78) r81)] : List Tre) Try.underlying92 ti_41 zi_41 rfl rfl rfl (fun w hh => ⟨(hh.rd 0 rfl), trivial⟩)) (fun _ hk => nomatch hk) (fun b84 => ?_)
      refine JD_bnd fun z85 hz86 => ?_
      refine JD_one (i := 8) (by kernel_rfl) ?_
      refine JO_st rfl wn rfl (st_append 13 Try.underlying92 ti_41 zi_41 rfl bi_41 rfl rfl rfl rfl (fun w hh => hh.src_ow 0 rfl) hz86) (sub_ow 0 rfl) (fun v87 => ?_)
      refine JD_one (i := 9) (by kernel_rfl) ?_
      refine JO_sk rfl wn (sk_store_bx' 14 ti_92 rfl rfl (fun w hh => (hh.cv_ow 13 rfl)) rfl rfl rfl rfl) (sub_bx 1 rfl) ?_
      refine JD_done (by kernel_rfl) ?_
      refine N_inl0 (.inr rfl) hK19 rfl ?_
      refine JL_nt ?_
      refine J_region ?_
      refine JM rfl rfl ?_
      refine JM rfl rfl ?_
      refine JL_q wn rfl (ex_len_rd 9 Try.underlying24 rfl rfl) ?_
      refine JL_q wn rfl (ex_add rfl rfl) ?_
      refine JA rfl rfl ?_
      refine JL_nil ?_
      refine N_block ?_
      refine N_then ?_
      refine J_region ?_
      refine JM rfl rfl ?_
      refine JL_q wn rfl (ex_add rfl rfl) ?_
      refine JA rfl rfl ?_
      refine JL_nil ?_
      exact N_next' v87 ⟨rfl, rfl, rfl, trivial⟩ [12, 13, 14] rfl rfl
     ·refine JO_call rfl wn rfl Try.call36 rfl (Ca_of (fun _ => rfl) fun w hh => ih_ _ w hh.av' _ _ (hh.rd 5 rfl) _ hr76) (fun x88 => ?_)
      refine JD_bnd fun r89 hr90 => ?_
      refine JD_two (i := 0) (j := 5) (by kernel_rfl) ?_ ?_
      ·refine JO_q rfl wn rfl (ex_load_bx 11 ti_92 rfl rfl rfl) ?_
       refine JD_one (i := 5) (by kernel_rfl) ?_
       refine JO_call rfl wn rfl Try.call45 rfl (Ca_self (fun _ => rfl) fun w hh => c_impl_pair _ w (fun _ hk => hk.elim) _ _ (hh.rd0 2 rfl) _ _ (hh.rd0 0 rfl) _ hr90) (fun x91 => ?_)
       refine JD_trmk 0 rfl (fun w hh => (hh.rd 3 rfl)) (fun w hh => (hh.rd 1 rfl)) ?_
       refine JD_bnd fun r92 hr93 => ?_
       refine JD_one (i := 6) (by kernel_rfl) ?_
       refine JO_call rfl wn rfl Try.call45 rfl (Ca_self (fun _ => rfl) fun w hh => c_impl_pair _ w (fun _ hk => hk.elim) _ _ (hh.rd0 2 rfl) _ _ (hh.rd0 0 rfl) _ hr93) (fun x94 => ?_)
       refine JD_trmk 0 rfl (fun w hh => (hh.rd 3 rfl)) (fun w hh => (hh.rd 1 rfl)) ?_
       refine JD_one (i := 7) (by kernel_rfl) ?_
       refine JO_st rfl wn rfl (st_buildSlice (vs := [(.pointer (some ⟨x94, 0, none⟩))]) ([(Tre.node r58 (Tre.node r21 r75 r89) r92)] : List Tre) Try.underlying92 ti_41 zi_41 rfl rfl rfl (fun w hh => ⟨(hh.rd 0 rfl), trivial⟩)) (fun _ hk => nomatch hk) (fun b95 => ?_)
       refine JD_bnd fun z96 hz97 => ?_
       refine JD_one (i := 8) (by kernel_rfl) ?_
       refine JO_st rfl wn rfl (st_append 13 Try.underlying92 ti_41 zi_41 rfl bi_41 rfl rfl rfl rfl (fun w hh => hh.src_ow 0 rfl) hz97) (sub_ow 0 rfl) (fun v98 => ?_)
       refine JD_one (i := 9) (by kernel_rfl) ?_
       refine JO_sk rfl wn (sk_store_bx' 14 ti_92 rfl rfl (fun w hh => (hh.cv_ow 13 rfl)) rfl rfl rfl rfl) (sub_bx 1 rfl) ?_
       refine JD_done (by kernel_rfl) ?_
       refine N_inl0 (.inr rfl) hK19 rfl ?_
       refine JL_nt ?_
       refine J_region ?_
       refine JM rfl rfl ?_
       refine JM rfl rfl ?_
       refine JL_q wn rfl (ex_len_rd 9 Try.underlying24 rfl rfl) ?_
       refine JL_q wn rfl (ex_add rfl rfl) ?_
       refine JA rfl rfl ?_
       refine JL_nil ?_
       refine N_block ?_
       refine N_then ?_
       refine J_region ?_
       refine JM rfl rfl ?_
       refine JL_q wn rfl (ex_add rfl rfl) ?_
       refine JA rfl rfl ?_
       refine JL_nil ?_
       exact N_next' v98 ⟨rfl, rfl, rfl, trivial⟩ [12, 13, 14] rfl rfl
      ·refine JO_call rfl wn rfl Try.call45 rfl (Ca_self (fun _ => rfl) fun w hh => c_impl_pair _ w (fun _ hk => hk.elim) _ _ (hh.rd0 2 rfl) _ _ (hh.rd0 0 rfl) _ hr90) (fun x99 => ?_)
       refine JD_trmk 0 rfl (fun w hh => (hh.rd 3 rfl)) (fun w hh => (hh.rd 1 rfl)) ?_
       refine JD_bnd fun r100 hr101 => ?_
       refine JD_two (i := 0) (j := 6) (by kernel_rfl) ?_ ?_
       ·refine JO_q rfl wn rfl (ex_load_bx 12 ti_92 rfl rfl rfl) ?_
        refine JD_one (i := 6) (by kernel_rfl) ?_
        refine JO_call rfl wn rfl Try.call45 rfl (Ca_self (fun _ => rfl) fun w hh => c_impl_pair _ w (fun _ hk => hk.elim) _ _ (hh.rd0 2 rfl) _ _ (hh.rd0 0 rfl) _ hr101) (fun x102 => ?_)
        refine JD_trmk 0 rfl (fun w hh => (hh.rd 3 rfl)) (fun w hh => (hh.rd 1 rfl)) ?_
        refine JD_one (i := 7) (by kernel_rfl) ?_
        refine JO_st rfl wn rfl (st_buildSlice (vs := [(.pointer (some ⟨x102, 0, none⟩))]) ([(Tre.node r58 (Tre.node r21 r75 r89) r100)] : List Tre) Try.underlying92 ti_41 zi_41 rfl rfl rfl (fun w hh => ⟨(hh.rd 0 rfl), trivial⟩)) (fun _ hk => nomatch hk) (fun b103 => ?_)
        refine JD_bnd fun z104 hz105 => ?_
        refine JD_one (i := 8) (by kernel_rfl) ?_
        refine JO_st rfl wn rfl (st_append 13 Try.underlying92 ti_41 zi_41 rfl bi_41 rfl rfl rfl rfl (fun w hh => hh.src_ow 0 rfl) hz105) (sub_ow 0 rfl) (fun v106 => ?_)
        refine JD_one (i := 9) (by kernel_rfl) ?_
        refine JO_sk rfl wn (sk_store_bx' 14 ti_92 rfl rfl (fun w hh => (hh.cv_ow 13 rfl)) rfl rfl rfl rfl) (sub_bx 1 rfl) ?_
        refine JD_done (by kernel_rfl) ?_
        refine N_inl0 (.inr rfl) hK19 rfl ?_
        refine JL_nt ?_
        refine J_region ?_
        refine JM rfl rfl ?_
        refine JM rfl rfl ?_
        refine JL_q wn rfl (ex_len_rd 9 Try.underlying24 rfl rfl) ?_
        refine JL_q wn rfl (ex_add rfl rfl) ?_
        refine JA rfl rfl ?_
        refine JL_nil ?_
        refine N_block ?_
        refine N_then ?_
        refine J_region ?_
        refine JM rfl rfl ?_
        refine JL_q wn rfl (ex_add rfl rfl) ?_
        refine JA rfl rfl ?_
        refine JL_nil ?_
        exact N_next' v106 ⟨rfl, rfl, rfl, trivial⟩ [12, 13, 14] rfl rfl
       ·refine JO_call rfl wn rfl Try.call45 rfl (Ca_self (fun _ => rfl) fun w hh => c_impl_pair _ w (fun _ hk => hk.elim) _ _ (hh.rd0 2 rfl) _ _ (hh.rd0 0 rfl) _ hr101) (fun x107 => ?_)
        refine JD_trmk 0 rfl (fun w hh => (hh.rd 3 rfl)) (fun w hh => (hh.rd 1 rfl)) ?_
        refine JD_two (i := 0) (j := 7) (by kernel_rfl) ?_ ?_
        ·refine JO_q rfl wn rfl (ex_load_bx 13 ti_92 rfl rfl rfl) ?_
         refine JD_one (i := 7) (by kernel_rfl) ?_
         refine JO_st rfl wn rfl (st_buildSlice (vs := [(.pointer (some ⟨x107, 0, none⟩))]) ([(Tre.node r58 (Tre.node r21 r75 r89) r100)] : List Tre) Try.underlying92 ti_41 zi_41 rfl rfl rfl (fun w hh => ⟨(hh.rd 0 rfl), trivial⟩)) (fun _ hk => nomatch hk) (fun b108 => ?_)
         refine JD_bnd fun z109 hz110 => ?_
         refine JD_one (i := 8) (by kernel_rfl) ?_
         refine JO_st rfl wn rfl (st_append 13 Try.underlying92 ti_41 zi_41 rfl bi_41 rfl rfl rfl rfl (fun w hh => hh.src_ow 0 rfl) hz110) (sub_ow 0 rfl) (fun v111 => ?_)
         refine JD_one (i := 9) (by kernel_rfl) ?_
         refine JO_sk rfl wn (sk_store_bx' 14 ti_92 rfl rfl (fun w hh => (hh.cv_ow 13 rfl)) rfl rfl rfl rfl) (sub_bx 1 rfl) ?_
         refine JD_done (by kernel_rfl) ?_
         refine N_inl0 (.inr rfl) hK19 rfl ?_
         refine JL_nt ?_
         refine J_region ?_
         refine JM rfl rfl ?_
         refine JM rfl rfl ?_
         refine JL_q wn rfl (ex_len_rd 9 Try.underlying24 rfl rfl) ?_
         refine JL_q wn rfl (ex_add rfl rfl) ?_
         refine JA rfl rfl ?_
         refine JL_nil ?_
         refine N_block ?_
         refine N_then ?_
         refine J_region ?_
         refine JM rfl rfl ?_
         refine JL_q wn rfl (ex_add rfl rfl) ?_
         refine JA rfl rfl ?_
         refine JL_nil ?_
         exact N_next' v111 ⟨rfl, rfl, rfl, trivial⟩ [12, 13, 14] rfl rfl
        ·refine JO_st rfl wn rfl (st_buildSlice (vs := [(.pointer (some ⟨x107, 0, none⟩))]) ([(Tre.node r58 (Tre.node r21 r75 r89) r100)] : List Tre) Try.underlying92 ti_41 zi_41 rfl rfl rfl (fun w hh => ⟨(hh.rd 0 rfl), trivial⟩)) (fun _ hk => nomatch hk) (fun b112 => ?_)
         refine JD_one (i := 0) (by kernel_rfl) ?_
         refine JO_q rfl wn rfl (ex_load_bx 14 ti_92 rfl rfl rfl) ?_
         refine JD_bnd fun z113 hz114 => ?_
         refine JD_one (i := 8) (by kernel_rfl) ?_
         refine JO_st rfl wn rfl (st_append 13 Try.underlying92 ti_41 zi_41 rfl bi_41 rfl rfl rfl rfl (fun w hh => hh.src_ow 0 rfl) hz114) (sub_ow 0 rfl) (fun v115 => ?_)
         refine JD_one (i := 9) (by kernel_rfl) ?_
         refine JO_sk rfl wn (sk_store_bx' 14 ti_92 rfl rfl (fun w hh => (hh.cv_ow 13 rfl)) rfl rfl rfl rfl) (sub_bx 1 rfl) ?_
         refine JD_done (by kernel_rfl) ?_
         refine N_inl0 (.inr rfl) hK19 rfl ?_
         refine JL_nt ?_
         refine J_region ?_
         refine JM rfl rfl ?_
         refine JM rfl rfl ?_
         refine JL_q wn rfl (ex_len_rd 9 Try.underlying24 rfl rfl) ?_
         refine JL_q wn rfl (ex_add rfl rfl) ?_
         refine JA rfl rfl ?_
         refine JL_nil ?_
         refine N_block ?_
         refine N_then ?_
         refine J_region ?_
         refine JM rfl rfl ?_
         refine JL_q wn rfl (ex_add rfl rfl) ?_
         refine JA rfl rfl ?_
         refine JL_nil ?_
         exact N_next' v115 ⟨rfl, rfl, rfl, trivial⟩ [12, 13, 14] rfl rfl
  ·refine J_exit ?_
   refine N_then_exit ?_
   exact N_break' g5 ⟨rfl, rfl, rfl, trivial⟩ [0, 1, 2] rfl rfl
 ·refine N_inl0 (.inr rfl) hK3 rfl ?_
  refine JL_nt ?_
  refine J_sr ?_
  refine JL_q wn rfl (ex_load_bx 2 ti_92 rfl rfl rfl) ?_
  refine JL_bnd fun r116 hr117 => ?_
  refine JL_ctx (fun w hh => hh.freeze 1 rfl) ?_
  refine JL_call wn rfl Try.call61 rfl (Ca_of (fun _ => rfl) fun w hh => c_impl_treeOfList _ w hh.av' _ _ (hh.rd 1 rfl) _ hr117) (fun x118 => ?_)
  refine JA rfl rfl ?_
  refine JL_nt ?_
  refine J_ret ?_
  exact N_ret1 rfl (rv_tmp rfl) (fun w hh => ⟨x118, rfl, hh.sel [0] rfl⟩)
theorem c_impl_codeOfWhile (A : Nat → Prop) (w : World) (hA : ∀ k, A k → k < w.heap.size) (v0_ : Value) (p0 : (List GCommand)) (hp0 : Rd A w v0_ p0) (r : Tre) (hr : F_impl_codeOfWhile p0 = some r) :
  Con Try.prog 36 [v0_] A w (fun x_ : Value => x_) (fun x_ => [.rd x_ r]) := by
 obtain ⟨k_, hk_⟩ := fixR_some hr
 exact c_impl_codeOfWhile_ind k_ A w hA v0_ p0 hp0 r hk_
set_option maxHeartbeats 40000000 in
theorem c_impl_codedWhile (A : Nat → Prop) (w : World) (hA : ∀ k, A k → k < w.heap.size) (v0_ : Value) (p0 : (List GCommand)) (hp0 : Rd A w v0_ p0) (r : Tre × Int) (hr : F_impl_codedWhile p0 = some r) :
  Con Try.prog 16 [v0_] A w (fun x_ : Value => .tuple #[x_, .int .i64 r.2]) (fun x_ => [.rd x_ r.1]) := by
 refine Con_of (v := fun (r : Tre × Int) (x_ : Value) => .tuple #[x_, .int .i64 r.2]) (fs := fun r x_ => [.rd x_ r.1]) Try.func16 rfl Try.ntmps16 rfl ((SH.start hA).start_rd rfl hp0) rfl ?_ hr
 unfold F_impl_codedWhile
 refine J_sr ?_
 refine JL_ctx (fun w hh => hh.tr_nil) ?_
 refine JA rfl rfl ?_
 refine JA rfl rfl ?_
 refine JL_nt ?_
 refine J_seq ?_
 refine J_sr ?_
 refine JM rfl rfl ?_
 refine JL_bnd fun r1 hr2 => ?_
 refine JL_call wn rfl Try.call34 rfl (Ca_of0 fun w hh => c_impl_ValidWhile _ w (fun _ hk => hk.elim) _ _ (hh.rd0 1 rfl) _ hr2) (fun _ => ?_)
 refine JL_q wn rfl (ex_not rfl) ?_
 refine JL_nt ?_
 refine J_if rfl (fun h3 => ?_) (fun h3 => ?_)
 ·refine J_sr ?_
  refine JL_ctx (fun w hh => hh.tr_nil) ?_
  refine JA rfl rfl ?_
  refine JA rfl rfl ?_
  refine JL_nt ?_
  refine J_ret ?_
  refine N_then_ret ?_
  exact N_ret2 rfl (rv_tmp rfl) (rv_tmp rfl) (fun w hh => ⟨(.pointer none), rfl, hh.sel [0] rfl⟩)
 ·refine J_skip ?_
  refine N_then ?_
  refine J_seq ?_
  refine J_sr ?_
  refine JM rfl rfl ?_
  refine JL_bnd fun r4 hr5 => ?_
  refine JL_call wn rfl Try.call35 rfl (Ca_of0 fun w hh => c_impl_zeroCode _ w (fun _ hk => hk.elim) _ _ (hh.rd0 1 rfl) _ hr5) (fun _ => ?_)
  refine JA rfl rfl ?_
  refine JL_nt ?_
  refine J_sr ?_
  refine JM rfl rfl ?_
  refine JL_q wn rfl (ex_neq rfl rfl) ?_
  refine JL_nt ?_
  refine J_if rfl (fun h6 => ?_) (fun h6 => ?_)
  ·refine J_sr ?_
   refine JM rfl rfl ?_
   refine JL_ctx (fun w hh => hh.tr_nil) ?_
   refine JA rfl rfl ?_
   refine JA rfl rfl ?_
   refine JL_nt ?_
   refine J_ret ?_
   refine N_then_ret ?_
   exact N_ret2 rfl (rv_tmp rfl) (rv_tmp rfl) (fun w hh => ⟨(.pointer none), rfl, hh.sel [0] rfl⟩)
  ·refine J_skip ?_
   refine N_then ?_
   refine J_sr ?_
   refine JM rfl rfl ?_
   refine JL_bnd fun r7 hr8 => ?_
   refine JL_call wn rfl Try.call36 rfl (Ca_of (fun _ => rfl) fun w hh => c_impl_codeOfWhile _ w hh.av' _ _ (hh.rd 1 rfl) _ hr8) (fun x9 => ?_)
   refine JA rfl rfl ?_
   refine JL_nt ?_
   refine J_seq ?_
   refine J_sr ?_
   refine JM rfl rfl ?_
   refine JL_bnd fun r10 hr11 => ?_
   refine JL_call wn rfl Try.call37 rfl (Ca_of0 fun w hh => c_impl_tree_nodesOf _ w (fun _ hk => hk.elim) _ _ (hh.rd0 0 rfl) _ hr11) (fun _ => ?_)
   refine JL_q wn rfl (ex_gtr rfl rfl) ?_
   refine JL_nt ?_
   refine J_if rfl (fun h12 => ?_) (fun h12 => ?_)
   ·refine J_sr ?_
    refine JL_ctx (fun w hh => hh.tr_nil) ?_
    refine JA rfl rfl ?_
    refine JA rfl rfl ?_
    refine JL_nt ?_
    refine J_ret ?_
    refine N_then_ret ?_
    exact N_ret2 rfl (rv_tmp rfl) (rv_tmp rfl) (fun w hh => ⟨(.pointer none), rfl, hh.sel [0] rfl⟩)
   ·refine J_skip ?_
    refine N_then ?_
    refine J_sr ?_
    refine JM rfl rfl ?_
    refine JA rfl rfl ?_
    refine JA rfl rfl ?_
    refine JL_nt ?_
    refine J_ret ?_
    exact N_ret2 rfl (rv_tmp rfl) (rv_tmp rfl) (fun w hh => ⟨x9, rfl, hh.sel [0] rfl⟩)
set_option maxHeartbeats 40000000 in
theorem c_impl_tree_list_1_c1_ind : ∀ (k_ : Nat) (w : World) (b1_ : Nat) (p1 : (List Bool)) (v1_0 : Value) (b2_ : Nat) (B_ : List Nat) (hB_ : Ctx.owns [.bx b1_ 25 [v1_0], .ow 4 v1_0 p1, .bx b2_ 75 [.func (.func 38) #[] #[.pointer (some ⟨b1_, 0, none⟩), .pointer (some ⟨b2_, 0, none⟩)]]] = B_) (hn_ : PHanded w [.bx b1_ 25 [v1_0], .ow 4 v1_0 p1, .bx b2_ 75 [.func (.func 38) #[] #[.pointer (some ⟨b1_, 0, none⟩), .pointer (some ⟨b2_, 0, none⟩)]]]) (v0_ : Value) (p0 : Tre) (hp0 : Rd (fun k => k ∈ B_) w v0_ p0) (r : (Unit) × ((List Bool))) (hr : fixN (fun (rec_ : (Tre × (List Bool)) → Option ((Unit) × ((List Bool)))) (a_ : Tre × (List Bool)) => F_impl_tree_list_1_c1_step (fun p0 p1 => rec_ (p0, p1)) a_.1 a_.2) k_ (p0, p1) = some r),
  PtrCon Try.prog 38 [v0_, .pointer (some ⟨b1_, 0, none⟩), .pointer (some ⟨b2_, 0, none⟩)] w B_ (fun x_ : Value => .tuple #[]) (fun x_ => [.bx b1_ 25 [x_], .ow 4 x_ r.2, .bx b2_ 75 [.func (.func 38) #[] #[.pointer (some ⟨b1_, 0, none⟩), .pointer (some ⟨b2_, 0, none⟩)]]]) := by
 intro k_
 induction k_ with
 | zero => intro w b1_ p1 v1_0 b2_ B_ hB_ hn_ v0_ p0 hp0 r hr; cases hr
 | succ k_ ih_ =>
 intro w b1_ p1 v1_0 b2_ B_ hB_ hn_ v0_ p0 hp0 r hr
 replace hr : F_impl_tree_list_1_c1_step (fun p0 p1 => fixN (fun (rec_ : (Tre × (List Bool)) → Option ((Unit) × ((List Bool)))) (a_ : Tre × (List Bool)) => F_impl_tree_list_1_c1_step (fun p0 p1 => rec_ (p0, p1)) a_.1 a_.2) k_ (p0, p1)) p0 p1 = some r := hr
 refine PtrCon_of (v := fun (r : (Unit) × ((List Bool))) (x_ : Value) => .tuple #[]) (fs := fun r x_ => [.bx b1_ 25 [x_], .ow 4 x_ r.2, .bx b2_ 75 [.func (.func 38) #[] #[.pointer (some ⟨b1_, 0, none⟩), .pointer (some ⟨b2_, 0, none⟩)]]]) Try.func38 rfl Try.ntmps38 rfl (show SH nowhere (bare w) w [.rd v0_ p0, .bx b1_ 25 [v1_0], .ow 4 v1_0 p1, .bx b2_ 75 [.func (.func 38) #[] #[.pointer (some ⟨b1_, 0, none⟩), .pointer (some ⟨b2_, 0, none⟩)]], .tkn (.int .i64 0) (0 : Int) (restL w B_), rest w B_] from ((SH.begin hB_ hn_).cons_apart hB_ hp0)) rfl ?_ hr
 unfold F_impl_tree_list_1_c1_step
 refine J_sr ?_
 refine JL_q wn rfl (ex_load_bx 1 ti_25 rfl rfl rfl) ?_
 refine JM rfl rfl ?_
 refine JL_q wn rfl (ex_ne_tr 0 Try.underlying41 rfl rfl rfl) ?_
 refine JL_st wn rfl (st_buildSlice (vs := [.bool (!(p0.isNil))]) ([(!(p0.isNil))] : List Bool) Try.underlying25 ti_4 zi_4 rfl rfl rfl (fun w hh => ⟨(Rd.mk_bool _ _ _), trivial⟩)) (fun b1 => ?_)
 refine JL_bnd fun z2 hz3 => ?_
 refine JL_st wn rfl (st_append 3 Try.underlying25 ti_4 zi_4 rfl bi_4 rfl rfl rfl rfl (fun w hh => hh.src_ow 0 rfl) hz3) (fun v4 => ?_)
 refine JL_sk wn (sk_store_bx' 2 ti_25 rfl rfl (fun w hh => (hh.cv_ow 3 rfl)) rfl rfl rfl rfl) ?_
 refine JL_nt ?_
 refine J_sr ?_
 refine JM rfl rfl ?_
 refine JL_q wn rfl (ex_ne_tr 1 Try.underlying41 rfl rfl rfl) ?_
 refine JL_nt ?_
 refine J_if rfl (fun h5 => ?_) (fun h5 => ?_)
 ·refine J_seq ?_
  refine J_draw [0, 2, 3, 4] (by kernel_rfl) ?_
  refine JP_take (i := 1) [1, 5, 6] [0, 2, 3, 4] rfl (by kernel_rfl) (by kernel_rfl) (by kernel_rfl) rfl rfl wn rfl (ex_move rfl) ?_
  refine JP_bnd fun y6 hy7 => ?_
  refine JP_take (i := 2) [1, 5, 6] [0, 2, 3, 4] rfl (by kernel_rfl) (by kernel_rfl) (by kernel_rfl) rfl rfl wn rfl (ex_nilCheck_tr 0 rfl rfl hy7) ?_
  refine JP_sq (i := 3) [0, 2, 3, 4] rfl (by kernel_rfl) (by kernel_rfl) (by kernel_rfl) rfl wn rfl (sq_field_tr 1 (Gtree.at_head _) fi_77_0 rfl rfl rfl hy7) (fun q8 => ?_)
  refine JP_sq (i := 4) [1, 3, 4, 5] rfl (by kernel_rfl) (by kernel_rfl) (by kernel_rfl) rfl wn rfl (sq_load_pt_o 0 (opens_tr _) ti_41 rfl rfl) (fun v9 => ?_)
  refine JP_go [0, 1, 3, 7, 8] [2, 4, 5, 6] rfl rfl rfl (fun w11 h1_12 hp10 => ?_)
  refine JD_one (i := 0) (by kernel_rfl) ?_
  refine JO_q rfl wn rfl (ex_load_bx 6 ti_75 rfl rfl rfl) ?_
  refine JD_bnd fun r13 hr14 => ?_
  refine JD_one (i := 5) (by kernel_rfl) ?_
  refine JO_callvT (args := [_]) (caps := [.pointer (some ⟨b1_, 0, none⟩), .pointer (some ⟨b2_, 0, none⟩)]) rfl wn rfl Try.call38 rfl rfl (CaT_of [4, 5, 6] [0, 1, 2, 3, 7, 8] rfl rfl (fun _ => rfl) fun w hh => ih_ w b1_ z2 v4 b2_ _ rfl (hh.handed [4, 5, 6] rfl rfl rfl rfl) _ _ (hh.apart [4, 5, 6] rfl (hh.rd 0 rfl)) _ hr14) (fun k hk => (List.mem_append.1 hk).elim ((sub_bx 1 rfl) k) ((fun k hk => (List.mem_append.1 hk).elim ((sub_ow 2 rfl) k) ((sub_bx 3 rfl) k)) k)) (fun x15 => ?_)
  refine JD_done (by kernel_rfl) ?_
  refine N_then ?_
  refine J_draw [0, 1, 2, 5] (by kernel_rfl) ?_
  refine JP_take (i := 1) [3, 4, 6, 7, 8] [0, 1, 2, 5] rfl (by kernel_rfl) (by kernel_rfl) (by kernel_rfl) rfl rfl wn rfl (ex_move rfl) ?_
  refine JP_bnd fun y16 hy17 => ?_
  refine JP_take (i := 2) [3, 4, 6, 7, 8] [0, 1, 2, 5] rfl (by kernel_rfl) (by kernel_rfl) (by kernel_rfl) rfl rfl wn rfl (ex_nilCheck_tr 2 rfl rfl hy17) ?_
  refine JP_sq (i := 3) [0, 1, 2, 5] rfl (by kernel_rfl) (by kernel_rfl) (by kernel_rfl) rfl wn rfl (sq_field_tr 6 (Gtree.at_tail _) fi_77_1 rfl rfl rfl hy17) (fun q18 => ?_)
  refine JP_sq (i := 4) [1, 2, 3, 6] rfl (by kernel_rfl) (by kernel_rfl) (by kernel_rfl) rfl wn rfl (sq_load_pt_o 0 (opens_tr _) ti_41 rfl rfl) (fun v19 => ?_)
  refine JP_go [0, 1, 5, 6, 8, 9, 10] [2, 3, 4, 7] rfl rfl rfl (fun w21 h1_22 hp20 => ?_)
  refine JD_one (i := 0) (by kernel_rfl) ?_
  refine JO_q rfl wn rfl (ex_load_bx 4 ti_75 rfl rfl rfl) ?_
  refine JD_bnd fun r23 hr24 => ?_
  refine JD_one (i := 5) (by kernel_rfl) ?_
  refine JO_callvT (args := [_]) (caps := [.pointer (some ⟨b1_, 0, none⟩), .pointer (some ⟨b2_, 0, none⟩)]) rfl wn rfl Try.call38 rfl rfl (CaT_of [2, 3, 4] [0, 1, 5, 6, 7, 8, 9, 10] rfl rfl (fun _ => rfl) fun w hh => ih_ w b1_ r13.2 x15 b2_ _ rfl (hh.handed [2, 3, 4] rfl rfl rfl rfl) _ _ (hh.apart [2, 3, 4] rfl (hh.rd 0 rfl)) _ hr24) (fun k hk => (List.mem_append.1 hk).elim ((sub_bx 0 rfl) k) ((fun k hk => (List.mem_append.1 hk).elim ((sub_ow 1 rfl) k) ((sub_bx 2 rfl) k)) k)) (fun x25 => ?_)
  refine JD_done (by kernel_rfl) ?_
  exact N_ret0 (.inr rfl) rfl  (fun w hh => ⟨x25, rfl, hh.sel [0, 1, 2, 9, 10] rfl⟩)
 ·refine J_skip ?_
  exact N_ret0 (.inr rfl) rfl  (fun w hh => ⟨v4, rfl, hh.sel [2, 3, 4, 5, 6] rfl⟩)
theorem c_impl_tree_list_1_c1 (w : World) (b1_ : Nat) (p1 : (List Bool)) (v1_0 : Value) (b2_ : Nat) (B_ : List Nat) (hB_ : Ctx.owns [.bx b1_ 25 [v1_0], .ow 4 v1_0 p1, .bx b2_ 75 [.func (.func 38) #[] #[.pointer (some ⟨b1_, 0, none⟩), .pointer (some ⟨b2_, 0, none⟩)]]] = B_) (hn_ : PHanded w [.bx b1_ 25 [v1_0], .ow 4 v1_0 p1, .bx b2_ 75 [.func (.func 38) #[] #[.pointer (some ⟨b1_, 0, none⟩), .pointer (some ⟨b2_, 0, none⟩)]]]) (v0_ : Value) (p0 : Tre) (hp0 : Rd (fun k => k ∈ B_) w v0_ p0) (r : (Unit) × ((List Bool))) (hr : F_impl_tree_list_1_c1 p0 p1 = some r) :
  PtrCon Try.prog 38 [v0_, .pointer (some ⟨b1_, 0, none⟩), .pointer (some ⟨b2_, 0, none⟩)] w B_ (fun x_ : Value => .tuple #[]) (fun x_ => [.bx b1_ 25 [x_], .ow 4 x_ r.2, .bx b2_ 75 [.func (.func 38) #[] #[.pointer (some ⟨b1_, 0, none⟩), .pointer (some ⟨b2_, 0, none⟩)]]]) := by
 obtain ⟨k_, hk_⟩ := fixR_some hr
 exact c_impl_tree_list_1_c1_ind k_ w b1_ p1 v1_0 b2_ B_ hB_ hn_ v0_ p0 hp0 r hk_
set_option maxHeartbeats 40000000 in
theorem c_impl_tree_list (A : Nat → Prop) (w : World) (hA : ∀ k, A k → k < w.heap.size) (v0_ : Value) (p0 : Tre) (hp0 : Rd A w v0_ p0) (r : (List Bool)) (hr : F_impl_tree_list p0 = some r) :
  Con Try.prog 17 [v0_] A w (fun x_ : Value => x_) (fun x_ => [.ow 4 x_ r]) := by
 refine Con_of (v := fun (r : (List Bool)) (x_ : Value) => x_) (fs := fun r x_ => [.ow 4 x_ r]) Try.func17 rfl Try.ntmps17 rfl ((SH.start hA).start_rd rfl hp0) rfl ?_ hr
 unfold F_impl_tree_list
 refine J_sr ?_
 refine JA rfl rfl ?_
 refine JL_nt ?_
 refine J_sr ?_
 refine JM rfl rfl ?_
 refine JL_bnd fun r1 hr2 => ?_
 refine JL_call wn rfl Try.call37 rfl (Ca_of0 fun w hh => c_impl_tree_nodesOf _ w (fun _ hk => hk.elim) _ _ (hh.rd0 0 rfl) _ hr2) (fun _ => ?_)
 refine JL_bnd fun z3 hz4 => ?_
 refine JL_st wn rfl (st_make0 (α := Bool) Try.underlying25 ti_4 zi_4 bi_4 rfl rfl rfl hz4) (fun b5 => ?_)
 refine JL_st wn rfl (st_alloc zi_25 rfl) (fun b6 => ?_)
 refine JL_sk wn (sk_store_bx' 0 ti_25 rfl rfl (fun w hh => (hh.cv_ow 1 rfl)) rfl rfl rfl rfl) ?_
 refine JL_nt ?_
 refine J_sr ?_
 refine JL_st wn rfl (st_alloc zi_75 rfl) (fun b7 => ?_)
 refine JL_nt ?_
 refine J_sr ?_
 refine JL_q wn rfl (ex_makeFunc rfl) ?_
 refine JL_sk wn (sk_store_bx' 0 ti_75 rfl rfl (fun w hh => cv_fn) rfl rfl rfl rfl) ?_
 refine JL_nt ?_
 refine J_sr ?_
 refine JL_q wn rfl (ex_load_bx 0 ti_75 rfl rfl rfl) ?_
 refine JM rfl rfl ?_
 refine JL_bnd fun r8 hr9 => ?_
 refine JL_callvT (args := [_]) (caps := [.pointer (some ⟨b6, 0, none⟩), .pointer (some ⟨b7, 0, none⟩)]) wn rfl Try.call38 rfl rfl (CaT_of [1, 2, 0] [3] rfl rfl (fun _ => rfl) fun w hh => c_impl_tree_list_1_c1 w b6 ([] : (List Bool)) (.slice (some ⟨b5, 0, none⟩) 0 z3.length) b7 _ rfl (hh.handed [1, 2, 0] rfl rfl rfl rfl) _ _ (hh.apart [1, 2, 0] rfl (hh.rd 3 rfl)) _ hr9) (fun x10 => ?_)
 refine JL_nt ?_
 refine J_sr ?_
 refine JL_q wn rfl (ex_load_bx 0 ti_25 rfl rfl rfl) ?_
 refine JA rfl rfl ?_
 refine JL_nt ?_
 refine J_ret ?_
 exact N_ret1 rfl (rv_tmp rfl) (fun w hh => ⟨x10, rfl, hh.sel [1] rfl⟩)
set_option maxHeartbeats 40000000 in
theorem c_impl_CodeWhile (A : Nat → Prop) (w : World) (hA : ∀ k, A k → k < w.heap.size) (v0_ : Value) (p0 : (List GCommand)) (hp0 : Rd A w v0_ p0) (r : (List Bool) × Int) (hr : F_impl_CodeWhile p0 = some r) :
  Con Try.prog 6 [v0_] A w (fun x_ : Value => .tuple #[x_, .int .i64 r.2]) (fun x_ => [.ow 4 x_ r.1]) := by
 refine Con_of (v := fun (r : (List Bool) × Int) (x_ : Value) => .tuple #[x_, .int .i64 r.2]) (fs := fun r x_ => [.ow 4 x_ r.1]) Try.func6 rfl Try.ntmps6 rfl ((SH.start hA).start_rd rfl hp0) rfl ?_ hr
 unfold F_impl_CodeWhile
 refine J_sr ?_
 refine JA rfl rfl ?_
 refine JA rfl rfl ?_
 refine JL_nt ?_
 refine J_sr ?_
 refine JM rfl rfl ?_
 refine JL_bnd fun r1 hr2 => ?_
 refine JL_call wn rfl Try.call16 rfl (Ca_of (fun _ => rfl) fun w hh => c_impl_codedWhile _ w hh.av' _ _ (hh.rd 0 rfl) _ hr2) (fun x3 => ?_)
 refine JM rfl rfl ?_
 refine JL_q wn rfl (ex_extract rfl rfl) ?_
 refine JL_q wn rfl (ex_extract rfl rfl) ?_
 refine JA rfl rfl ?_
 refine JA rfl rfl ?_
 refine JL_nt ?_
 refine J_seq ?_
 refine J_sr ?_
 refine JM rfl rfl ?_
 refine JL_q wn rfl (ex_neq rfl rfl) ?_
 refine JL_nt ?_
 refine J_if rfl (fun h4 => ?_) (fun h4 => ?_)
 ·refine J_sr ?_
  refine JM rfl rfl ?_
  refine JA rfl rfl ?_
  refine JA rfl rfl ?_
  refine JL_nt ?_
  refine J_ret ?_
  refine N_then_ret ?_
  refine N_ctx (fun w hh => SH.ow_nil (α := Bool) 4 hh) ?_
  exact N_ret2 rfl (rv_tmp rfl) (rv_tmp rfl) (fun w hh => ⟨(.slice none 0 0 : Value), rfl, hh.sel [0] rfl⟩)
 ·refine J_skip ?_
  refine N_then ?_
  refine J_sr ?_
  refine JM rfl rfl ?_
  refine JL_bnd fun r5 hr6 => ?_
  refine JL_call wn rfl Try.call17 rfl (Ca_self (fun _ => rfl) fun w hh => c_impl_tree_list _ w (fun _ hk => hk.elim) _ _ (hh.rd0 0 rfl) _ hr6) (fun x7 => ?_)
  refine JA rfl rfl ?_
  refine JA rfl rfl ?_
  refine JL_nt ?_
  refine J_ret ?_
  exact N_ret2 rfl (rv_tmp rfl) (rv_tmp rfl) (fun w hh => ⟨x7, rfl, hh.sel [0] rfl⟩)
set_option maxHeartbeats 40000000 in
theorem c_impl_size_bool (A : Nat → Prop) (w : World) (hA : ∀ k, A k → k < w.heap.size) (v0_ : Value) (p0 : (List Bool)) (hp0 : Rd A w v0_ p0) (r : Int) (hr : F_impl_size_bool p0 = some r) :
  Con Try.prog 40 [v0_] A w (fun x_ : Unit => .int .i64 r) (fun x_ => []) := by
 refine Con_of (v := fun (r : Int) (x_ : Unit) => .int .i64 r) (fs := fun r x_ => []) Try.func40 rfl Try.ntmps40 rfl ((SH.start hA).start_rd rfl hp0) rfl ?_ hr
 unfold F_impl_size_bool
 refine J_sr ?_
 refine JA rfl rfl ?_
 refine JL_nt ?_
 refine J_sr ?_
 refine JM rfl rfl ?_
 refine JL_q wn rfl (ex_len_rd 0 Try.underlying25 rfl rfl) ?_
 refine JA rfl rfl ?_
 refine JL_nt ?_
 refine J_ret ?_
 exact N_ret1 rfl (rv_tmp rfl) (fun w hh => ⟨(), rfl, hh.sel [] rfl⟩)
set_option maxHeartbeats 40000000 in
theorem c_impl_termEnd_bool (A : Nat → Prop) (w : World) (hA : ∀ k, A k → k < w.heap.size) (v0_ : Value) (p0 : (List Bool)) (hp0 : Rd A w v0_ p0) (p1 : Int) (v2_ : Value) (p2 : (Bool → Option Int)) (hp2 : Clo Try.prog w v2_ p2 (.int .i64)) (r : Int) (hr : F_impl_termEnd_bool p0 p1 p2 = some r) :
  Con Try.prog 41 [v0_, .int .i64 p1, v2_] A w (fun x_ : Unit => .int .i64 r) (fun x_ => []) := by
 refine Con_of (v := fun (r : Int) (x_ : Unit) => .int .i64 r) (fs := fun r x_ => []) Try.func41 rfl Try.ntmps41 rfl ((SH.start hA).start_rd rfl hp0) rfl ?_ hr
 unfold F_impl_termEnd_bool
 refine J_sr ?_
 refine JA rfl rfl ?_
 refine JL_nt ?_
 refine J_seq ?_
 refine J_sr ?_
 refine JA rfl rfl ?_
 refine JL_nt ?_
 refine J_loop' (S := Int × Int) (G := Unit) (F_impl_termEnd_bool_L1 p0 p2) (fun s1 _ => [(0, v0_), (1, .int .i64 s1.1), (2, v2_), (7, .int .i64 s1.2)]) (fun s1 _ => [.rd v0_ p0]) (p1, 1) () ⟨rfl, rfl, rfl, rfl, trivial⟩ [0] rfl rfl (fun s1 g2 => ?_) (fun s1 g2 => ?_)
 ·unfold F_impl_termEnd_bool_L1
  refine J_seq ?_
  refine J_sr ?_
  refine JM rfl rfl ?_
  refine JL_q wn rfl (ex_gtr rfl rfl) ?_
  refine JL_nt ?_
  refine J_if rfl (fun h3 => ?_) (fun h3 => ?_)
  ·refine J_skip ?_
   refine N_then ?_
   refine J_seq ?_
   refine J_block ?_
   refine J_seq ?_
   refine J_sr ?_
   refine JM rfl rfl ?_
   refine JM rfl rfl ?_
   refine JL_q wn rfl (ex_len_rd 0 Try.underlying25 rfl rfl) ?_
   refine JL_q wn rfl (ex_geq rfl rfl) ?_
   refine JL_nt ?_
   refine J_if rfl (fun h4 => ?_) (fun h4 => ?_)
   ·refine J_sr ?_
    refine JA rfl rfl ?_
    refine JL_nt ?_
    refine J_ret ?_
    refine N_then_ret ?_
    refine N_block_ret ?_
    refine N_then_ret ?_
    refine N_round_ret ?_
    refine N_then_ret ?_
    exact N_ret1 rfl (rv_tmp rfl) (fun w hh => ⟨(), rfl, hh.sel [] rfl⟩)
   ·refine J_skip ?_
    refine N_then ?_
    refine J_region ?_
    refine JM rfl rfl ?_
    refine JM rfl rfl ?_
    refine JM rfl rfl ?_
    refine JM rfl rfl ?_
    refine JL_bnd fun y5 hy6 => ?_
    refine JL_st wn rfl (st_index 0 Try.underlying25 ti_4 rfl rfl rfl hy6) (fun q7 => ?_)
    refine JL_st wn rfl (st_load_pt_o 0 (opens_bool _) ti_4 rfl rfl) (fun _ => ?_)
    refine JL_bnd fun r9 hr10 => ?_
    refine JL_clo wn rfl hp2 rfl rfl (fun w hh => (Rd.mk_bool _ _ _)) hr10 ?_
    refine JL_q wn rfl (ex_sub rfl rfl) ?_
    refine JL_q wn rfl (ex_add rfl rfl) ?_
    refine JA rfl rfl ?_
    refine JL_nil ?_
    refine N_block ?_
    refine N_then ?_
    refine J_region ?_
    refine JM rfl rfl ?_
    refine JL_q wn rfl (ex_add rfl rfl) ?_
    refine JA rfl rfl ?_
    refine JL_nil ?_
    exact N_next' () ⟨rfl, rfl, rfl, rfl, trivial⟩ [1] rfl rfl
  ·refine J_exit ?_
   refine N_then_exit ?_
   exact N_break' () ⟨rfl, rfl, rfl, rfl, trivial⟩ [0] rfl rfl
 ·refine N_then ?_
  refine J_sr ?_
  refine JM rfl rfl ?_
  refine JA rfl rfl ?_
  refine JL_nt ?_
  refine J_ret ?_
  exact N_ret1 rfl (rv_tmp rfl) (fun w hh => ⟨(), rfl, hh.sel [] rfl⟩)
set_option maxHeartbeats 40000000 in
theorem c_impl_follows (A : Nat → Prop) (w : World) (hA : ∀ k, A k → k < w.heap.size) (p0 : Bool) (r : Int) (hr : F_impl_follows p0 = some r) :
  Con Try.prog 42 [.bool p0] A w (fun x_ : Unit => .int .i64 r) (fun x_ => []) := by
 refine Con_of (v := fun (r : Int) (x_ : Unit) => .int .i64 r) (fs := fun r x_ => []) Try.func42 rfl Try.ntmps42 rfl (SH.start hA) rfl ?_ hr
 unfold F_impl_follows
 refine J_sr ?_
 refine JA rfl rfl ?_
 refine JL_nt ?_
 refine J_seq ?_
 refine J_sr ?_
 refine JM rfl rfl ?_
 refine JL_nt ?_
 refine J_if rfl (fun h1 => ?_) (fun h1 => ?_)
 ·refine J_sr ?_
  refine JA rfl rfl ?_
  refine JL_nt ?_
  refine J_ret ?_
  refine N_then_ret ?_
  exact N_ret1 rfl (rv_tmp rfl) (fun w hh => ⟨(), rfl, hh.sel [] rfl⟩)
 ·refine J_skip ?_
  refine N_then ?_
  refine J_sr ?_
  refine JA rfl rfl ?_
  refine JL_nt ?_
  refine J_ret ?_
  exact N_ret1 rfl (rv_tmp rfl) (fun w hh => ⟨(), rfl, hh.sel [] rfl⟩)
set_option maxHeartbeats 40000000 in
theorem c_impl_IsTree (A : Nat → Prop) (w : World) (hA : ∀ k, A k → k < w.heap.size) (v0_ : Value) (p0 : (List Bool)) (hp0 : Rd A w v0_ p0) (r : Bool) (hr : F_impl_IsTree p0 = some r) :
  Con Try.prog 18 [v0_] A w (fun x_ : Unit => .bool r) (fun x_ => []) := by
 refine Con_of (v := fun (r : Bool) (x_ : Unit) => .bool r) (fs := fun r x_ => []) Try.func18 rfl Try.ntmps18 rfl ((SH.start hA).start_rd rfl hp0) rfl ?_ hr
 unfold F_impl_IsTree
 refine J_sr ?_
 refine JA rfl rfl ?_
 refine JL_nt ?_
 refine J_sr ?_
 refine JM rfl rfl ?_
 refine JL_bnd fun r1 hr2 => ?_
 refine JL_call wn rfl Try.call40 rfl (Ca_of0 fun w hh => c_impl_size_bool _ w (fun _ hk => hk.elim) _ _ (hh.rd0 0 rfl) _ hr2) (fun _ => ?_)
 refine JL_bnd fun r3 hr4 => ?_
 refine JL_call wn rfl Try.call39 rfl (Ca_of0 fun w hh => c_impl_within _ w (fun _ hk => hk.elim) _ _ _ _ hr4) (fun _ => ?_)
 refine JM rfl rfl ?_
 refine JL_cond (fun h5 => ?_) (fun h5 => ?_)
 ·refine JL_q (wants_some rfl rfl rfl h5) rfl (ex_move rfl) ?_
  refine JL_bnd fun r6 hr7 => ?_
  refine JL_call (wants_some rfl rfl rfl h5) rfl Try.call41 rfl (Ca_of0 fun w hh => c_impl_termEnd_bool _ w (fun _ hk => hk.elim) _ _ (hh.rd0 0 rfl) _ _ _ (Clo.mk (caps := []) Try.call42 (fun w_ hb_ v_ x_ r_ hrd_ hr_ => (by obtain rfl := Rd.bool hrd_; exact c_impl_follows nowhere w_ (fun _ hk => hk.elim) x_  _ hr_))) _ hr7) (fun _ => ?_)
  refine JL_q (wants_some rfl rfl rfl h5) rfl (ex_move rfl) ?_
  refine JL_q (wants_some rfl rfl rfl h5) rfl (ex_len_rd 0 Try.underlying25 rfl rfl) ?_
  refine JL_q (wants_some rfl rfl rfl h5) rfl (ex_eql rfl rfl) ?_
  refine JL_q wn rfl (ex_pick_true rfl h5 rfl) ?_
  refine JA rfl rfl ?_
  refine JL_nt ?_
  refine J_ret ?_
  exact N_ret1 rfl (rv_tmp rfl) (fun w hh => ⟨(), rfl, hh.sel [] rfl⟩)
 ·refine JL_passed rfl rfl rfl h5 ?_
  refine JL_passed rfl rfl rfl h5 ?_
  refine JL_passed rfl rfl rfl h5 ?_
  refine JL_passed rfl rfl rfl h5 ?_
  refine JL_passed rfl rfl rfl h5 ?_
  refine JL_q wn rfl (ex_pick_false rfl h5 rfl) ?_
  refine JA rfl rfl ?_
  refine JL_nt ?_
  refine J_ret ?_
  exact N_ret1 rfl (rv_tmp rfl) (fun w hh => ⟨(), rfl, hh.sel [] rfl⟩)
set_option maxHeartbeats 40000000 in
theorem c_impl_listOfTree (A : Nat → Prop) (w : World) (hA : ∀ k, A k → k < w.heap.size) (v0_ : Value) (p0 : Tre) (hp0 : Rd A w v0_ p0) (r : (List Tre)) (hr : F_impl_listOfTree p0 = some r) :
  Con Try.prog 62 [v0_] A w (fun x_ : Value => x_) (fun x_ => [.ow 41 x_ r]) := by
 refine Con_of (v := fun (r : (List Tre)) (x_ : Value) => x_) (fs := fun r x_ => [.ow 41 x_ r]) Try.func62 rfl Try.ntmps62 rfl ((SH.start hA).start_rd rfl hp0) rfl ?_ hr
 unfold F_impl_listOfTree
 refine J_sr ?_
 refine JA rfl rfl ?_
 refine JL_nt ?_
 refine J_sr ?_
 refine JL_st wn rfl (st_buildSlice_od (vs := []) (B := ([] : List Nat)) ([] : List Tre) [] Try.underlying92 ti_41 zi_41 rfl rfl rfl rfl rfl (fun w hh => dwv_nil)) (fun b1 => ?_)
 refine JA rfl rfl ?_
 refine JL_nt ?_
 refine J_seq ?_
 refine J_ctx (fun w hh => hh.od_ow 0 rfl) ?_
 refine J_loop' (S := Tre × (List Tre)) (G := Value × Value) (F_impl_listOfTree_L1) (fun s2 g3 => [(0, g3.1), (3, g3.2)]) (fun s2 g3 => [.rd g3.1 s2.1, .ow 41 g3.2 s2.2]) (p0, ([] : List Tre)) (v0_, (.slice (some ⟨b1, 0, none⟩) 0 0)) ⟨rfl, rfl, trivial⟩ [1, 0] rfl rfl (fun s2 g3 => ?_) (fun s2 g3 => ?_)
 ·obtain ⟨g3_0, g3_1⟩ := g3
  unfold F_impl_listOfTree_L1
  refine J_seq ?_
  refine J_sr ?_
  refine JM rfl rfl ?_
  refine JL_q wn rfl (ex_ne_tr 0 Try.underlying41 rfl rfl rfl) ?_
  refine JL_nt ?_
  refine J_if rfl (fun h4 => ?_) (fun h4 => ?_)
  ·refine J_skip ?_
   refine N_then ?_
   refine J_seq ?_
   refine J_block ?_
   refine J_region ?_
   refine JM rfl rfl ?_
   refine JM rfl rfl ?_
   refine JL_bnd fun y5 hy6 => ?_
   refine JL_q wn rfl (ex_nilCheck_tr 0 rfl rfl hy6) ?_
   refine JL_st wn rfl (st_field_tr 0 (Gtree.at_head _) fi_77_0 rfl rfl rfl hy6) (fun q7 => ?_)
   refine JL_st wn rfl (st_load_pt_o 0 (opens_tr _) ti_41 rfl rfl) (fun v8 => ?_)
   refine JL_st wn rfl (st_buildSlice (vs := [v8]) ([y5.head] : List Tre) Try.underlying92 ti_41 zi_41 rfl rfl rfl (fun w hh => ⟨(hh.rd 0 rfl), trivial⟩)) (fun b9 => ?_)
   refine JL_bnd fun z10 hz11 => ?_
   refine JL_st wn rfl (st_append 4 Try.underlying92 ti_41 zi_41 rfl bi_41 rfl rfl rfl rfl (fun w hh => hh.src_ow 0 rfl) hz11) (fun v12 => ?_)
   refine JA rfl rfl ?_
   refine JL_nil ?_
   refine N_block ?_
   refine N_then ?_
   refine J_region ?_
   refine JM rfl rfl ?_
   refine JL_bnd fun y13 hy14 => ?_
   refine JL_q wn rfl (ex_nilCheck_tr 3 rfl rfl hy14) ?_
   refine JL_st wn rfl (st_field_tr 3 (Gtree.at_tail _) fi_77_1 rfl rfl rfl hy14) (fun q15 => ?_)
   refine JL_st wn rfl (st_load_pt_o 0 (opens_tr _) ti_41 rfl rfl) (fun v16 => ?_)
   refine JA rfl rfl ?_
   refine JL_nil ?_
   exact N_next' (v16, v12) ⟨rfl, rfl, trivial⟩ [0, 6] rfl rfl
  ·refine J_exit ?_
   refine N_then_exit ?_
   exact N_break' (g3_0, g3_1) ⟨rfl, rfl, trivial⟩ [0, 1] rfl rfl
 ·obtain ⟨g3_0, g3_1⟩ := g3
  refine N_then ?_
  refine J_sr ?_
  refine JM rfl rfl ?_
  refine JA rfl rfl ?_
  refine JL_nt ?_
  refine J_ret ?_
  exact N_ret1 rfl (rv_tmp rfl) (fun w hh => ⟨g3_1, rfl, hh.sel [1] rfl⟩)
set_option maxHeartbeats 40000000 in
theorem c_impl_tree_headOf (A : Nat → Prop) (w : World) (hA : ∀ k, A k → k < w.heap.size) (v0_ : Value) (p0 : Tre) (hp0 : Rd A w v0_ p0) (r : Tre) (hr : F_impl_tree_headOf p0 = some r) :
  Con Try.prog 23 [v0_] A w (fun x_ : Value => x_) (fun x_ => [.rd x_ r]) := by
 refine Con_of (v := fun (r : Tre) (x_ : Value) => x_) (fs := fun r x_ => [.rd x_ r]) Try.func23 rfl Try.ntmps23 rfl ((SH.start hA).start_rd rfl hp0) rfl ?_ hr
 unfold F_impl_tree_headOf
 refine J_sr ?_
 refine JL_ctx (fun w hh => hh.tr_nil) ?_
 refine JA rfl rfl ?_
 refine JL_nt ?_
 refine J_seq ?_
 refine J_sr ?_
 refine JM rfl rfl ?_
 refine JL_q wn rfl (ex_eq_tr 1 Try.underlying41 rfl rfl rfl) ?_
 refine JL_nt ?_
 refine J_if rfl (fun h1 => ?_) (fun h1 => ?_)
 ·refine J_sr ?_
  refine JL_ctx (fun w hh => hh.tr_nil) ?_
  refine JA rfl rfl ?_
  refine JL_nt ?_
  refine J_ret ?_
  refine N_then_ret ?_
  exact N_ret1 rfl (rv_tmp rfl) (fun w hh => ⟨(.pointer none), rfl, hh.sel [0] rfl⟩)
 ·refine J_skip ?_
  refine N_then ?_
  refine J_sr ?_
  refine JM rfl rfl ?_
  refine JL_bnd fun y2 hy3 => ?_
  refine JL_q wn rfl (ex_nilCheck_tr 1 rfl rfl hy3) ?_
  refine JL_st wn rfl (st_field_tr 1 (Gtree.at_head _) fi_77_0 rfl rfl rfl hy3) (fun q4 => ?_)
  refine JL_st wn rfl (st_load_pt_o 0 (opens_tr _) ti_41 rfl rfl) (fun v5 => ?_)
  refine JA rfl rfl ?_
  refine JL_nt ?_
  refine J_ret ?_
  exact N_ret1 rfl (rv_tmp rfl) (fun w hh => ⟨v5, rfl, hh.sel [0] rfl⟩)
set_option maxHeartbeats 40000000 in
theorem c_impl_tree_tailOf (A : Nat → Prop) (w : World) (hA : ∀ k, A k → k < w.heap.size) (v0_ : Value) (p0 : Tre) (hp0 : Rd A w v0_ p0) (r : Tre) (hr : F_impl_tree_tailOf p0 = some r) :
  Con Try.prog 63 [v0_] A w (fun x_ : Value => x_) (fun x_ => [.rd x_ r]) := by
 refine Con_of (v := fun (r : Tre) (x_ : Value) => x_) (fs := fun r x_ => [.rd x_ r]) Try.func63 rfl Try.ntmps63 rfl ((SH.start hA).start_rd rfl hp0) rfl ?_ hr
 unfold F_impl_tree_tailOf
 refine J_sr ?_
 refine JL_ctx (fun w hh => hh.tr_nil) ?_
 refine JA rfl rfl ?_
 refine JL_nt ?_
 refine J_seq ?_
 refine J_sr ?_
 refine JM rfl rfl ?_
 refine JL_q wn rfl (ex_eq_tr 1 Try.underlying41 rfl rfl rfl) ?_
 refine JL_nt ?_
 refine J_if rfl (fun h1 => ?_) (fun h1 => ?_)
 ·refine J_sr ?_
  refine JL_ctx (fun w hh => hh.tr_nil) ?_
  refine JA rfl rfl ?_
  refine JL_nt ?_
  refine J_ret ?_
  refine N_then_ret ?_
  exact N_ret1 rfl (rv_tmp rfl) (fun w hh => ⟨(.pointer none), rfl, hh.sel [0] rfl⟩)
 ·refine J_skip ?_
  refine N_then ?_
  refine J_sr ?_
  refine JM rfl rfl ?_
  refine JL_bnd fun y2 hy3 => ?_
  refine JL_q wn rfl (ex_nilCheck_tr 1 rfl rfl hy3) ?_
  refine JL_st wn rfl (st_field_tr 1 (Gtree.at_tail _) fi_77_1 rfl rfl rfl hy3) (fun q4 => ?_)
  refine JL_st wn rfl (st_load_pt_o 0 (opens_tr _) ti_41 rfl rfl) (fun v5 => ?_)
  refine JA rfl rfl ?_
  refine JL_nt ?_
  refine J_ret ?_
  exact N_ret1 rfl (rv_tmp rfl) (fun w hh => ⟨v5, rfl, hh.sel [0] rfl⟩)
end Go.Proofs.Ytlikagofgciflaa
