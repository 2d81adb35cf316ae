/-
  Each function of the program computes what its plain function says: printed by program. No condition.
-/
import Derived.Test.YtgpimmdigeobbaaFn
import Derived.Test.YtgpimmdigeobbaaInf
import Derived.Test.YtgpimmdigeobbaaCon2
import Derived.Test.YtgpimmdigeobbaaCon3
namespace Go.Proofs.Ytgpimmdigeobbaa
open Go Go.Tc Go.Fn
set_option linter.unusedVariables false
set_option maxHeartbeats 40000000 in
theorem c_impl_validSide (A : Nat → Prop) (w : World) (hA : ∀ k, A k → k < w.heap.size) (v0_ : Value) (p0 : (List Int)) (hp0 : Rd A w v0_ p0) (p1 : Int) (p2 : Int) (r : Bool) (hr : F_impl_validSide p0 p1 p2 = some r) :
  Con Try.prog 78 [v0_, .int .i64 p1, .int .i64 p2] A w (fun x_ : Unit => .bool r) (fun x_ => []) := by
 refine Con_of (v := fun (r : Bool) (x_ : Unit) => .bool r) (fs := fun r x_ => []) Try.func78 rfl Try.ntmps78 rfl ((SH.start hA).start_rd rfl hp0) rfl ?_ hr
 unfold F_impl_validSide
 refine J_sr (JA rfl rfl (JL_nt (J_sr (JM rfl rfl (JL_bnd fun r1 hr2 => JL_call wn rfl Try.call58 rfl (Ca_of0 fun w hh => c_impl_size_int64 _ w (fun _ hk => hk.elim) _ _ (hh.rd0 0 rfl) _ hr2) (fun _ => JM rfl rfl (JL_q wn rfl (ex_leq rfl rfl) (JM rfl rfl (JL_cond (fun h3 => ?_) (fun h3 => ?_))))))))))
 ·refine JL_q (wants_some rfl rfl rfl h3) rfl (ex_move rfl) (JL_q (wants_some rfl rfl rfl h3) rfl (ex_move rfl) (JL_q (wants_some rfl rfl rfl h3) rfl (ex_sub rfl rfl) (JL_bnd fun r4 hr5 => JL_call (wants_some rfl rfl rfl h3) rfl Try.call18 rfl (Ca_of0 fun w hh => c_impl_allWithin _ w (fun _ hk => hk.elim) _ _ (hh.rd0 0 rfl) _ _ _ hr5) (fun _ => JL_q wn rfl (ex_pick_true rfl h3 rfl) (JM rfl rfl (JL_cond (fun h6 => ?_) (fun h6 => ?_)))))))
  ·refine JL_q (wants_some rfl rfl rfl h6) rfl (ex_move rfl) (JL_q (wants_some rfl rfl rfl h6) rfl (ex_len_rd 0 Try.underlying29 rfl rfl) (JL_q (wants_some rfl rfl rfl h6) rfl (ex_eql rfl rfl) (JL_q (wants_some rfl rfl rfl h6) rfl (ex_move rfl) (JL_cond (fun h7 => ?_) (fun h7 => ?_)))))
   ·exact JL_passed rfl rfl rfl h7 (JL_passed rfl rfl rfl h7 (JL_passed rfl rfl rfl h7 (JL_passed rfl rfl rfl h7 (JL_passed rfl rfl rfl h7 (JL_passed rfl rfl rfl h7 (JL_passed rfl rfl rfl h7 (JL_q (wants_some rfl rfl rfl h6) rfl (ex_pick_true rfl h7 rfl) (JL_q wn rfl (ex_pick_true rfl h6 rfl) (JA rfl rfl (JL_nt (J_ret (N_ret1 rfl (rv_tmp rfl) (fun w hh => ⟨(), rfl, hh.sel [] rfl⟩)))))))))))))
   ·exact JL_q (wants_some rfl rfl rfl h7) rfl (ex_move rfl) (JL_q (wants_some rfl rfl rfl h7) rfl (ex_move rfl) (JL_q (wants_some rfl rfl rfl h7) rfl (ex_len_rd 0 Try.underlying29 rfl rfl) (JL_q (wants_some rfl rfl rfl h7) rfl (ex_sub rfl rfl) (JL_bnd fun y8 hy9 => JL_st (wants_some rfl rfl rfl h7) rfl (st_index 0 Try.underlying29 ti_2 rfl rfl rfl hy9) (fun q10 => JL_st (wants_some rfl rfl rfl h7) rfl (st_load_pt_o 0 (opens_int _) ti_2 rfl rfl) (fun _ => JL_q (wants_some rfl rfl rfl h7) rfl (ex_neq rfl rfl) (JL_q (wants_some rfl rfl rfl h6) rfl (ex_pick_false rfl h7 rfl) (JL_q wn rfl (ex_pick_true rfl h6 rfl) (JA rfl rfl (JL_nt (J_ret (N_ret1 rfl (rv_tmp rfl) (fun w hh => ⟨(), rfl, hh.sel [] rfl⟩)))))))))))))
  ·exact JL_passed rfl rfl rfl h6 (JL_passed rfl rfl rfl h6 (JL_passed rfl rfl rfl h6 (JL_passed rfl rfl rfl h6 (JL_passed_undef rfl rfl rfl (JL_passed_undef rfl rfl rfl (JL_passed_undef rfl rfl rfl (JL_passed_undef rfl rfl rfl (JL_passed_undef rfl rfl rfl (JL_passed_undef rfl rfl rfl (JL_passed_undef rfl rfl rfl (JL_passed rfl rfl rfl h6 (JL_q wn rfl (ex_pick_false rfl h6 rfl) (JA rfl rfl (JL_nt (J_ret (N_ret1 rfl (rv_tmp rfl) (fun w hh => ⟨(), rfl, hh.sel [] rfl⟩)))))))))))))))))
 ·exact JL_passed rfl rfl rfl h3 (JL_passed rfl rfl rfl h3 (JL_passed rfl rfl rfl h3 (JL_passed rfl rfl rfl h3 (JL_q wn rfl (ex_pick_false rfl h3 rfl) (JM rfl rfl (JL_passed rfl rfl rfl rfl (JL_passed rfl rfl rfl rfl (JL_passed rfl rfl rfl rfl (JL_passed rfl rfl rfl rfl (JL_passed_undef rfl rfl rfl (JL_passed_undef rfl rfl rfl (JL_passed_undef rfl rfl rfl (JL_passed_undef rfl rfl rfl (JL_passed_undef rfl rfl rfl (JL_passed_undef rfl rfl rfl (JL_passed_undef rfl rfl rfl (JL_passed rfl rfl rfl rfl (JL_q wn rfl (ex_pick_false rfl rfl rfl) (JA rfl rfl (JL_nt (J_ret (N_ret1 rfl (rv_tmp rfl) (fun w hh => ⟨(), rfl, hh.sel [] rfl⟩)))))))))))))))))))))))
set_option maxHeartbeats 40000000 in
theorem c_impl_configOf (A : Nat → Prop) (w : World) (hA : ∀ k, A k → k < w.heap.size) (v0_ : Value) (p0 : GMachine) (hp0 : Rd A w v0_ p0) (v1_ : Value) (p1 : GConfig) (hp1 : Rd A w v1_ p1) (r : Bool) (hr : F_impl_configOf p0 p1 = some r) :
  Con Try.prog 59 [v0_, v1_] A w (fun x_ : Unit => .bool r) (fun x_ => []) := by
 obtain ⟨v0_0, rfl, hp0_0⟩ := GMachine.open hp0
 obtain ⟨v1_0, v1_1, rfl, hp1_0, hp1_1⟩ := GConfig.open hp1
 refine Con_of (v := fun (r : Bool) (x_ : Unit) => .bool r) (fs := fun r x_ => []) Try.func59 rfl Try.ntmps59 rfl ((((SH.start hA).start_rd rfl hp0_0).start_rd rfl hp1_0).start_rd rfl hp1_1) rfl ?_ hr
 unfold F_impl_configOf
 refine J_sr (JL_st wn rfl (st_box' rfl (fun w hh => (cv_aggs ⟨cv_int, cv_int, (hh.cv 2 rfl), trivial⟩))) (fun b1 => JL_st wn rfl (st_box' rfl (fun w hh => (cv_aggs ⟨cv_int, (hh.cv 2 rfl), (hh.cv 1 rfl), trivial⟩))) (fun b2 => JA rfl rfl (JL_nt (J_sr (JL_q wn rfl (ex_fieldAddr fi_35_0 rfl rfl) (JL_q wn rfl (ex_load_bx 0 ti_2 rfl rfl rfl) (JL_q wn rfl (ex_fieldAddr fi_26_1 rfl rfl) (JL_q wn rfl (ex_load_bx 1 ti_2 rfl rfl rfl) (JL_q wn rfl (ex_sub rfl rfl) (JL_bnd fun r3 hr4 => JL_call wn rfl Try.call31 rfl (Ca_of0 fun w hh => c_impl_within _ w (fun _ hk => hk.elim) _ _ _ _ hr4) (fun _ => JM rfl rfl (JL_cond (fun h5 => ?_) (fun h5 => ?_))))))))))))))
 ·refine JL_q (wants_some rfl rfl rfl h5) rfl (ex_fieldAddr fi_35_1 rfl rfl) (JL_q (wants_some rfl rfl rfl h5) rfl (ex_load_bx 0 ti_29 rfl rfl rfl) (JL_q (wants_some rfl rfl rfl h5) rfl (ex_fieldAddr fi_26_0 rfl rfl) (JL_q (wants_some rfl rfl rfl h5) rfl (ex_load_bx 1 ti_2 rfl rfl rfl) (JL_bnd fun r6 hr7 => JL_call (wants_some rfl rfl rfl h5) rfl Try.call78 rfl (Ca_of0 fun w hh => c_impl_validSide _ w (fun _ hk => hk.elim) _ _ (hh.rd0 3 rfl) _ _ _ hr7) (fun _ => JL_q wn rfl (ex_pick_true rfl h5 rfl) (JM rfl rfl (JL_cond (fun h8 => ?_) (fun h8 => ?_))))))))
  ·exact JL_q (wants_some rfl rfl rfl h8) rfl (ex_fieldAddr fi_35_2 rfl rfl) (JL_q (wants_some rfl rfl rfl h8) rfl (ex_load_bx 0 ti_29 rfl rfl rfl) (JL_q (wants_some rfl rfl rfl h8) rfl (ex_fieldAddr fi_26_0 rfl rfl) (JL_q (wants_some rfl rfl rfl h8) rfl (ex_load_bx 1 ti_2 rfl rfl rfl) (JL_bnd fun r9 hr10 => JL_call (wants_some rfl rfl rfl h8) rfl Try.call78 rfl (Ca_of0 fun w hh => c_impl_validSide _ w (fun _ hk => hk.elim) _ _ (hh.rd0 2 rfl) _ _ _ hr10) (fun _ => JL_q wn rfl (ex_pick_true rfl h8 rfl) (JA rfl rfl (JL_nt (J_ret (N_ret1 rfl (rv_tmp rfl) (fun w hh => ⟨(), rfl, hh.sel [] rfl⟩))))))))))
  ·exact JL_passed rfl rfl rfl h8 (JL_passed rfl rfl rfl h8 (JL_passed rfl rfl rfl h8 (JL_passed rfl rfl rfl h8 (JL_passed rfl rfl rfl h8 (JL_q wn rfl (ex_pick_false rfl h8 rfl) (JA rfl rfl (JL_nt (J_ret (N_ret1 rfl (rv_tmp rfl) (fun w hh => ⟨(), rfl, hh.sel [] rfl⟩))))))))))
 ·exact JL_passed rfl rfl rfl h5 (JL_passed rfl rfl rfl h5 (JL_passed rfl rfl rfl h5 (JL_passed rfl rfl rfl h5 (JL_passed rfl rfl rfl h5 (JL_q wn rfl (ex_pick_false rfl h5 rfl) (JM rfl rfl (JL_passed rfl rfl rfl rfl (JL_passed rfl rfl rfl rfl (JL_passed rfl rfl rfl rfl (JL_passed rfl rfl rfl rfl (JL_passed rfl rfl rfl rfl (JL_q wn rfl (ex_pick_false rfl rfl rfl) (JA rfl rfl (JL_nt (J_ret (N_ret1 rfl (rv_tmp rfl) (fun w hh => ⟨(), rfl, hh.sel [] rfl⟩)))))))))))))))))
set_option maxHeartbeats 40000000 in
theorem c_impl_ValidConfig (A : Nat → Prop) (w : World) (hA : ∀ k, A k → k < w.heap.size) (v0_ : Value) (p0 : GMachine) (hp0 : Rd A w v0_ p0) (v1_ : Value) (p1 : GConfig) (hp1 : Rd A w v1_ p1) (r : Bool) (hr : F_impl_ValidConfig p0 p1 = some r) :
  Con Try.prog 24 [v0_, v1_] A w (fun x_ : Unit => .bool r) (fun x_ => []) := by
 obtain ⟨v0_0, rfl, hp0_0⟩ := GMachine.open hp0
 obtain ⟨v1_0, v1_1, rfl, hp1_0, hp1_1⟩ := GConfig.open hp1
 refine Con_of (v := fun (r : Bool) (x_ : Unit) => .bool r) (fs := fun r x_ => []) Try.func24 rfl Try.ntmps24 rfl ((((SH.start hA).start_rd rfl hp0_0).start_rd rfl hp1_0).start_rd rfl hp1_1) rfl ?_ hr
 unfold F_impl_ValidConfig
 refine J_sr (JL_st wn rfl (st_box' rfl (fun w hh => (cv_aggs ⟨cv_int, cv_int, (hh.cv 2 rfl), trivial⟩))) (fun b1 => JL_st wn rfl (st_box' rfl (fun w hh => (cv_aggs ⟨cv_int, (hh.cv 2 rfl), (hh.cv 1 rfl), trivial⟩))) (fun b2 => JA rfl rfl (JL_nt (J_sr (JL_q wn rfl (ex_load_bx_agg 1 ti_26 rfl rfl rfl rfl) (JL_bnd fun r3 hr4 => JL_call wn rfl Try.call22 rfl (Ca_of0 fun w hh => c_impl_ValidMachine _ w (fun _ hk => hk.elim) _ _ (GMachine.rdmk (Rd.mk_int _ _ _) (Rd.mk_int _ _ _) (hh.rd0 4 rfl)) _ hr4) (fun _ => JM rfl rfl (JL_cond (fun h5 => ?_) (fun h5 => ?_))))))))))
 ·exact JL_q (wants_some rfl rfl rfl h5) rfl (ex_load_bx_agg 1 ti_26 rfl rfl rfl rfl) (JL_q (wants_some rfl rfl rfl h5) rfl (ex_load_bx_agg 0 ti_35 rfl rfl rfl rfl) (JL_bnd fun r6 hr7 => JL_call (wants_some rfl rfl rfl h5) rfl Try.call59 rfl (Ca_of0 fun w hh => c_impl_configOf _ w (fun _ hk => hk.elim) _ _ (GMachine.rdmk (Rd.mk_int _ _ _) (Rd.mk_int _ _ _) (hh.rd0 4 rfl)) _ _ (GConfig.rdmk (Rd.mk_int _ _ _) (hh.rd0 3 rfl) (hh.rd0 2 rfl)) _ hr7) (fun _ => JL_q wn rfl (ex_pick_true rfl h5 rfl) (JA rfl rfl (JL_nt (J_ret (N_ret1 rfl (rv_tmp rfl) (fun w hh => ⟨(), rfl, hh.sel [] rfl⟩))))))))
 ·exact JL_passed rfl rfl rfl h5 (JL_passed rfl rfl rfl h5 (JL_passed rfl rfl rfl h5 (JL_q wn rfl (ex_pick_false rfl h5 rfl) (JA rfl rfl (JL_nt (J_ret (N_ret1 rfl (rv_tmp rfl) (fun w hh => ⟨(), rfl, hh.sel [] rfl⟩))))))))
set_option maxHeartbeats 40000000 in
theorem c_impl_runnerOf (A : Nat → Prop) (w : World) (hA : ∀ k, A k → k < w.heap.size) (v0_ : Value) (p0 : GMachine) (hp0 : Rd A w v0_ p0) (v1_ : Value) (p1 : GConfig) (hp1 : Rd A w v1_ p1) (r : (Int × Int × (List GRule) × Int × (List Int) × (List Int))) (hr : F_impl_runnerOf p0 p1 = some r) :
  Con Try.prog 25 [v0_, v1_] A w (fun x_ : Value × Value × Value × Nat => .pointer (some ⟨x_.2.2.2, 0, none⟩)) (fun x_ => [.rd x_.1 r.2.2.1, .ow 2 x_.2.1 r.2.2.2.2.1, .ow 2 x_.2.2.1 r.2.2.2.2.2, .bx x_.2.2.2 95 [.int .i64 r.1, .int .i64 r.2.1, x_.1, .int .i64 r.2.2.2.1, x_.2.1, x_.2.2.1]]) := by
 obtain ⟨v0_0, rfl, hp0_0⟩ := GMachine.open hp0
 obtain ⟨v1_0, v1_1, rfl, hp1_0, hp1_1⟩ := GConfig.open hp1
 refine Con_of (v := fun (r : (Int × Int × (List GRule) × Int × (List Int) × (List Int))) (x_ : Value × Value × Value × Nat) => .pointer (some ⟨x_.2.2.2, 0, none⟩)) (fs := fun r x_ => [.rd x_.1 r.2.2.1, .ow 2 x_.2.1 r.2.2.2.2.1, .ow 2 x_.2.2.1 r.2.2.2.2.2, .bx x_.2.2.2 95 [.int .i64 r.1, .int .i64 r.2.1, x_.1, .int .i64 r.2.2.2.1, x_.2.1, x_.2.2.1]]) Try.func25 rfl Try.ntmps25 rfl ((((SH.start hA).start_rd rfl hp0_0).start_rd rfl hp1_0).start_rd rfl hp1_1) rfl ?_ hr
 unfold F_impl_runnerOf
 refine J_sr (JL_st wn rfl (st_box' rfl (fun w hh => (cv_aggs ⟨cv_int, cv_int, (hh.cv 2 rfl), trivial⟩))) (fun b1 => JL_st wn rfl (st_box' rfl (fun w hh => (cv_aggs ⟨cv_int, (hh.cv 2 rfl), (hh.cv 1 rfl), trivial⟩))) (fun b2 => JA rfl rfl (JL_nt (J_seq (J_draw [] (by kernel_rfl) ?_))))))
 refine JP_take (i := 0) [0, 1, 2, 3, 4] [] rfl (by kernel_rfl) (by kernel_rfl) (by kernel_rfl) rfl rfl wn rfl (ex_load_bx_agg 1 ti_26 rfl rfl rfl rfl) ?_
 refine JP_take (i := 1) [0, 1, 2, 3, 4] [] rfl (by kernel_rfl) (by kernel_rfl) (by kernel_rfl) rfl rfl wn rfl (ex_fieldAddr fi_35_0 rfl rfl) ?_
 refine JP_take (i := 2) [0, 1, 2, 3, 4] [] rfl (by kernel_rfl) (by kernel_rfl) (by kernel_rfl) rfl rfl wn rfl (ex_load_bx 0 ti_2 rfl rfl rfl) ?_
 refine JP_take (i := 3) [0, 1, 2, 3, 4] [] rfl (by kernel_rfl) (by kernel_rfl) (by kernel_rfl) rfl rfl wn rfl (ex_fieldAddr fi_35_1 rfl rfl) ?_
 refine JP_take (i := 4) [0, 1, 2, 3, 4] [] rfl (by kernel_rfl) (by kernel_rfl) (by kernel_rfl) rfl rfl wn rfl (ex_load_bx 0 ti_29 rfl rfl rfl) ?_
 refine JP_take (i := 6) [0, 1, 2, 3, 4] [] rfl (by kernel_rfl) (by kernel_rfl) (by kernel_rfl) rfl rfl wn rfl (ex_fieldAddr fi_35_2 rfl rfl) ?_
 refine JP_take (i := 7) [0, 1, 2, 3, 4] [] rfl (by kernel_rfl) (by kernel_rfl) (by kernel_rfl) rfl rfl wn rfl (ex_load_bx 0 ti_29 rfl rfl rfl) ?_
 refine JP_go [0, 1, 2, 3, 4] [] rfl rfl rfl (fun w4 h1_5 hp3 => JD_bnd fun r6 hr7 => JD_one (i := 5) (by kernel_rfl) ?_)
 refine JO_call rfl wn rfl Try.call45 rfl (Ca_self (fun _ => rfl) fun w hh => c_impl_reversed _ w (fun _ hk => hk.elim) _ _ (hh.rd0 3 rfl) _ hr7) (fun x8 => JD_bnd fun r9 hr10 => JD_one (i := 8) (by kernel_rfl) ?_)
 refine JO_call rfl wn rfl Try.call45 rfl (Ca_self (fun _ => rfl) fun w hh => c_impl_reversed _ w (fun _ hk => hk.elim) _ _ (hh.rd0 3 rfl) _ hr10) (fun x11 => JD_one (i := 9) (by kernel_rfl) ?_)
 refine JO_q rfl wn rfl (ex_buildN [(0, .agg #[.int .i64 p0.Symbols, .int .i64 p0.States, v0_0], [.int .i64 p0.Symbols, .int .i64 p0.States, v0_0]), (1, .int .i64 p1.State, [.int .i64 p1.State]), (2, x8, [x8]), (3, x11, [x11])] si_95 rfl (.cons fi_95_0 rfl rfl rfl (.cons fi_95_1 rfl rfl rfl (.cons fi_95_2 rfl rfl rfl (.cons fi_95_3 rfl rfl rfl .nil)))) (fun w hh => ⟨(cv_aggs ⟨cv_int, cv_int, (hh.cv 6 rfl), trivial⟩), cv_int, (hh.cv_ow 1 rfl), (hh.cv_ow 0 rfl), trivial⟩)) (JD_one (i := 10) (by kernel_rfl) ?_)
 refine JO_st rfl wn rfl (st_box' rfl (fun w hh => (cv_aggs ⟨cv_int, cv_int, (hh.cv 6 rfl), cv_int, (hh.cv_ow 1 rfl), (hh.cv_ow 0 rfl), trivial⟩))) (fun _ hk => nomatch hk) (fun b12 => JD_take (i := 11) hp3 rfl (by kernel_rfl) (by kernel_rfl) (by kernel_rfl) wn rfl (ex_assign rfl) ?_)
 refine JD_done (by kernel_rfl) ?_
 exact N_then (J_ret (N_ret1 rfl (rv_tmp rfl) (fun w hh => ⟨(v0_0, x8, x11, b12), rfl, hh.sel [7, 2, 1, 0] rfl⟩)))
set_option maxHeartbeats 40000000 in
theorem c_impl_nearest (A : Nat → Prop) (w : World) (hA : ∀ k, A k → k < w.heap.size) (v0_ : Value) (p0 : (List Int)) (hp0 : Rd A w v0_ p0) (r : Int) (hr : F_impl_nearest p0 = some r) :
  Con Try.prog 64 [v0_] A w (fun x_ : Unit => .int .i64 r) (fun x_ => []) := by
 refine Con_of (v := fun (r : Int) (x_ : Unit) => .int .i64 r) (fs := fun r x_ => []) Try.func64 rfl Try.ntmps64 rfl ((SH.start hA).start_rd rfl hp0) rfl ?_ hr
 unfold F_impl_nearest
 refine J_sr (JA rfl rfl (JL_nt (J_seq (J_sr (JM rfl rfl (JL_q wn rfl (ex_len_rd 0 Try.underlying29 rfl rfl) (JL_q wn rfl (ex_eql rfl rfl) (JL_nt (J_if rfl (fun h1 => ?_) (fun h1 => ?_))))))))))
 ·exact J_sr (JA rfl rfl (JL_nt (J_ret (N_then_ret (N_ret1 rfl (rv_tmp rfl) (fun w hh => ⟨(), rfl, hh.sel [] rfl⟩))))))
 ·exact J_skip (N_then (J_sr (JM rfl rfl (JM rfl rfl (JL_q wn rfl (ex_len_rd 0 Try.underlying29 rfl rfl) (JL_q wn rfl (ex_sub rfl rfl) (JL_bnd fun y2 hy3 => JL_st wn rfl (st_index 0 Try.underlying29 ti_2 rfl rfl rfl hy3) (fun q4 => JL_st wn rfl (st_load_pt_o 0 (opens_int _) ti_2 rfl rfl) (fun _ => JA rfl rfl (JL_nt (J_ret (N_ret1 rfl (rv_tmp rfl) (fun w hh => ⟨(), rfl, hh.sel [] rfl⟩)))))))))))))
set_option maxHeartbeats 40000000 in
theorem c_impl_runner_symbol (A : Nat → Prop) (w : World) (hA : ∀ k, A k → k < w.heap.size) (v0_ : Value) (p0 : Grunner) (hp0 : RdA A w.heap.size w v0_ p0) (r : Int) (hr : F_impl_runner_symbol p0 = some r) :
  Con Try.prog 89 [v0_] A w (fun x_ : Unit => .int .i64 r) (fun x_ => []) := by
 refine Con_of (v := fun (r : Int) (x_ : Unit) => .int .i64 r) (fs := fun r x_ => []) Try.func89 rfl Try.ntmps89 rfl ((SH.start hA).start_pa' rfl hp0) rfl ?_ hr
 unfold F_impl_runner_symbol
 exact J_sr (JA rfl rfl (JL_nt (J_sr (JM rfl rfl (JL_q wn rfl (ex_nilCheck_pa 0 rfl rfl) (JL_st wn rfl (st_field_pa 0 (Grunner.at_right _) fi_95_3 rfl rfl rfl) (fun q1 => JL_st wn rfl (st_load_pa_o 0 (opens_sl _) ti_29 rfl rfl) (fun v2 => JL_bnd fun r3 hr4 => JL_call wn rfl Try.call64 rfl (Ca_of0 fun w hh => c_impl_nearest _ w (fun _ hk => hk.elim) _ _ (hh.rd0 0 rfl) _ hr4) (fun _ => JA rfl rfl (JL_nt (J_ret (N_ret1 rfl (rv_tmp rfl) (fun w hh => ⟨(), rfl, hh.sel [] rfl⟩)))))))))))))
set_option maxHeartbeats 40000000 in
theorem c_impl_runner_at (A : Nat → Prop) (w : World) (hA : ∀ k, A k → k < w.heap.size) (v0_ : Value) (p0 : Grunner) (hp0 : RdA A w.heap.size w v0_ p0) (r : Int) (hr : F_impl_runner_at p0 = some r) :
  Con Try.prog 80 [v0_] A w (fun x_ : Unit => .int .i64 r) (fun x_ => []) := by
 refine Con_of (v := fun (r : Int) (x_ : Unit) => .int .i64 r) (fs := fun r x_ => []) Try.func80 rfl Try.ntmps80 rfl ((SH.start hA).start_pa' rfl hp0) rfl ?_ hr
 unfold F_impl_runner_at
 refine J_sr (JA rfl rfl (JL_nt (J_seq (J_draw [] (by kernel_rfl) ?_))))
 refine JP_take (i := 0) [0] [] rfl (by kernel_rfl) (by kernel_rfl) (by kernel_rfl) rfl rfl wn rfl (ex_move rfl) ?_
 refine JP_take (i := 1) [0] [] rfl (by kernel_rfl) (by kernel_rfl) (by kernel_rfl) rfl rfl wn rfl (ex_nilCheck_pa 0 rfl rfl) ?_
 refine JP_sq (i := 2) [] rfl (by kernel_rfl) (by kernel_rfl) (by kernel_rfl) rfl wn rfl (sq_field_pa 0 (Grunner.at_state _) fi_95_1 rfl rfl rfl) (fun q1 => ?_)
 refine JP_sq (i := 3) [] rfl (by kernel_rfl) (by kernel_rfl) (by kernel_rfl) rfl wn rfl (sq_load_pa_o 0 (opens_int _) ti_2 rfl rfl) (fun _ => ?_)
 refine JP_take (i := 4) [0, 1] [] rfl (by kernel_rfl) (by kernel_rfl) (by kernel_rfl) rfl rfl wn rfl (ex_move rfl) ?_
 refine JP_take (i := 5) [0, 1] [] rfl (by kernel_rfl) (by kernel_rfl) (by kernel_rfl) rfl rfl wn rfl (ex_nilCheck_pa 1 rfl rfl) ?_
 refine JP_sq (i := 6) [] rfl (by kernel_rfl) (by kernel_rfl) (by kernel_rfl) rfl wn rfl (sq_field_pa 1 (Grunner.at_m _) fi_95_0 rfl rfl rfl) (fun q3 => ?_)
 refine JP_sq (i := 7) [] rfl (by kernel_rfl) (by kernel_rfl) (by kernel_rfl) rfl wn rfl (sq_field_pa 0 (GMachine.at_Symbols _) fi_26_0 rfl rfl rfl) (fun q4 => ?_)
 refine JP_sq (i := 8) [] rfl (by kernel_rfl) (by kernel_rfl) (by kernel_rfl) rfl wn rfl (sq_load_pa_o 0 (opens_int _) ti_2 rfl rfl) (fun _ => ?_)
 refine JP_take (i := 9) [0, 1, 2, 3] [] rfl (by kernel_rfl) (by kernel_rfl) (by kernel_rfl) rfl rfl wn rfl (ex_mul rfl rfl) ?_
 refine JP_take (i := 10) [0, 1, 2, 3] [] rfl (by kernel_rfl) (by kernel_rfl) (by kernel_rfl) rfl rfl wn rfl (ex_move rfl) ?_
 refine JP_go [0, 1, 2, 3] [] rfl rfl rfl (fun w7 h1_8 hp6 => JD_bnd fun r9 hr10 => JD_one (i := 11) (by kernel_rfl) ?_)
 refine JO_call rfl wn rfl Try.call89 rfl (Ca_of0 fun w hh => c_impl_runner_symbol _ w (fun _ hk => hk.elim) _ _ (hh.pa0 3 rfl) _ hr10) (fun _ => JD_take (i := 12) hp6 rfl (by kernel_rfl) (by kernel_rfl) (by kernel_rfl) wn rfl (ex_add rfl rfl) ?_)
 refine JD_take (i := 13) hp6 rfl (by kernel_rfl) (by kernel_rfl) (by kernel_rfl) wn rfl (ex_assign rfl) ?_
 refine JD_done (by kernel_rfl) ?_
 exact N_then (J_ret (N_ret1 rfl (rv_tmp rfl) (fun w hh => ⟨(), rfl, hh.sel [] rfl⟩)))
set_option maxHeartbeats 40000000 in
theorem c_impl_runner_rule (A : Nat → Prop) (w : World) (hA : ∀ k, A k → k < w.heap.size) (v0_ : Value) (p0 : Grunner) (hp0 : RdA A w.heap.size w v0_ p0) (r : GRule) (hr : F_impl_runner_rule p0 = some r) :
  Con Try.prog 61 [v0_] A w (fun x_ : Unit => .agg #[.int .i64 r.Write, .int .i64 r.Move, .int .i64 r.Next]) (fun x_ => []) := by
 refine Con_of (v := fun (r : GRule) (x_ : Unit) => .agg #[.int .i64 r.Write, .int .i64 r.Move, .int .i64 r.Next]) (fs := fun r x_ => []) Try.func61 rfl Try.ntmps61 rfl ((SH.start hA).start_pa' rfl hp0) rfl ?_ hr
 unfold F_impl_runner_rule
 refine J_sr (JL_st wn rfl (st_alloc zi_88 rfl) (fun b1 => JL_nt (J_seq (J_draw [0] (by kernel_rfl) ?_))))
 refine JP_take (i := 0) [1] [0] rfl (by kernel_rfl) (by kernel_rfl) (by kernel_rfl) rfl rfl wn rfl (ex_move rfl) ?_
 refine JP_take (i := 1) [1] [0] rfl (by kernel_rfl) (by kernel_rfl) (by kernel_rfl) rfl rfl wn rfl (ex_nilCheck_pa 0 rfl rfl) ?_
 refine JP_sq (i := 2) [0] rfl (by kernel_rfl) (by kernel_rfl) (by kernel_rfl) rfl wn rfl (sq_field_pa 1 (Grunner.at_m _) fi_95_0 rfl rfl rfl) (fun q2 => ?_)
 refine JP_sq (i := 3) [1] rfl (by kernel_rfl) (by kernel_rfl) (by kernel_rfl) rfl wn rfl (sq_field_pa 0 (GMachine.at_Rules _) fi_26_2 rfl rfl rfl) (fun q3 => ?_)
 refine JP_sq (i := 4) [2] rfl (by kernel_rfl) (by kernel_rfl) (by kernel_rfl) rfl wn rfl (sq_load_pa_o 0 (opens_sl _) ti_24 rfl rfl) (fun v4 => ?_)
 refine JP_take (i := 5) [0, 1, 2, 4] [3] rfl (by kernel_rfl) (by kernel_rfl) (by kernel_rfl) rfl rfl wn rfl (ex_move rfl) ?_
 refine JP_go [0, 1, 2, 4] [3] rfl rfl rfl (fun w6 h1_7 hp5 => JD_bnd fun r8 hr9 => JD_one (i := 6) (by kernel_rfl) ?_)
 refine JO_call rfl wn rfl Try.call80 rfl (Ca_of0 fun w hh => c_impl_runner_at _ w (fun _ hk => hk.elim) _ _ (hh.pa0 4 rfl) _ hr9) (fun _ => JD_bnd fun y10 hy11 => JD_sq (i := 7) (fs := fun q12 => [.pt q12 y10]) [3] h1_7 rfl rfl (by kernel_rfl) (by kernel_rfl) (by kernel_rfl) wn rfl (sq_index 0 Try.underlying24 ti_88 rfl rfl rfl hy11) (fun _ => rfl) (fun q12 h1_13 => ?_))
 refine JD_sq (i := 8) [4] h1_13 rfl rfl (by kernel_rfl) (by kernel_rfl) (by kernel_rfl) wn rfl (sq_load_pt_o 0 (GRule.opens _) ti_88 rfl rfl) (fun _ => rfl) (fun _ h1_15 => ?_)
 refine JD_one (i := 9) (by kernel_rfl) ?_
 refine JO_sk rfl wn (sk_store_bx' 4 ti_88 rfl rfl (fun w hh => (cv_aggs ⟨cv_int, cv_int, cv_int, trivial⟩)) rfl rfl rfl rfl) (sub_bx 0 rfl) (JD_done (by kernel_rfl) ?_)
 exact N_then (J_ret (N_ret1 rfl (rv_cell 4 rfl rfl ti_88 rfl) (fun w hh => ⟨(), rfl, hh.sel [] rfl⟩)))
set_option maxHeartbeats 40000000 in
theorem c_impl_runner_halts (A : Nat → Prop) (w : World) (hA : ∀ k, A k → k < w.heap.size) (v0_ : Value) (p0 : Grunner) (hp0 : RdA A w.heap.size w v0_ p0) (r : Bool) (hr : F_impl_runner_halts p0 = some r) :
  Con Try.prog 26 [v0_] A w (fun x_ : Unit => .bool r) (fun x_ => []) := by
 refine Con_of (v := fun (r : Bool) (x_ : Unit) => .bool r) (fs := fun r x_ => []) Try.func26 rfl Try.ntmps26 rfl ((SH.start hA).start_pa' rfl hp0) rfl ?_ hr
 unfold F_impl_runner_halts
 exact J_sr (JA rfl rfl (JL_nt (J_sr (JM rfl rfl (JL_bnd fun r1 hr2 => JL_call wn rfl Try.call61 rfl (Ca_of0 fun w hh => c_impl_runner_rule _ w (fun _ hk => hk.elim) _ _ (hh.pa0 0 rfl) _ hr2) (fun _ => JL_bnd fun r3 hr4 => JL_call wn rfl Try.call60 rfl (Ca_of0 fun w hh => c_impl_isRule _ w (fun _ hk => hk.elim) _ _ (GRule.rdmk (Rd.mk_int _ _ _) (Rd.mk_int _ _ _) (Rd.mk_int _ _ _)) _ hr4) (fun _ => JL_q wn rfl (ex_not rfl) (JA rfl rfl (JL_nt (J_ret (N_ret1 rfl (rv_tmp rfl) (fun w hh => ⟨(), rfl, hh.sel [] rfl⟩))))))))))))
set_option maxHeartbeats 40000000 in
theorem c_impl_runner_step (w : World) (b0_ : Nat) (p0 : Grunner) (v0_2 : Value) (v0_4 : Value) (v0_5 : Value) (B_ : List Nat) (hB_ : Ctx.owns [.bx b0_ 95 [.int .i64 p0.m_Symbols, .int .i64 p0.m_States, v0_2, .int .i64 p0.state, v0_4, v0_5], .ow 2 v0_4 p0.left, .ow 2 v0_5 p0.right] = B_) (hn_ : PHanded w [.bx b0_ 95 [.int .i64 p0.m_Symbols, .int .i64 p0.m_States, v0_2, .int .i64 p0.state, v0_4, v0_5], .ow 2 v0_4 p0.left, .ow 2 v0_5 p0.right]) (hp0_2 : Rd (fun k => k ∈ B_) w v0_2 p0.m_Rules) (r : (Bool) × (Int × (List Int) × (List Int))) (hr : F_impl_runner_step p0 = some r) :
  PtrCon Try.prog 27 [.pointer (some ⟨b0_, 0, none⟩)] w B_ (fun x_ : Value × Value => .bool r.1) (fun x_ => [.bx b0_ 95 [.int .i64 p0.m_Symbols, .int .i64 p0.m_States, v0_2, .int .i64 r.2.1, x_.1, x_.2], .ow 2 x_.1 r.2.2.1, .ow 2 x_.2 r.2.2.2]) := by
 refine PtrCon_of (v := fun (r : (Bool) × (Int × (List Int) × (List Int))) (x_ : Value × Value) => .bool r.1) (fs := fun r x_ => [.bx b0_ 95 [.int .i64 p0.m_Symbols, .int .i64 p0.m_States, v0_2, .int .i64 r.2.1, x_.1, x_.2], .ow 2 x_.1 r.2.2.1, .ow 2 x_.2 r.2.2.2]) Try.func27 rfl Try.ntmps27 rfl (show SH nowhere (bare w) w [.rd v0_2 p0.m_Rules, .bx b0_ 95 [.int .i64 p0.m_Symbols, .int .i64 p0.m_States, v0_2, .int .i64 p0.state, v0_4, v0_5], .ow 2 v0_4 p0.left, .ow 2 v0_5 p0.right, .tkn (.int .i64 0) (0 : Int) (restL w B_), rest w B_] from ((SH.begin hB_ hn_).cons_apart hB_ hp0_2)) rfl ?_ hr
 unfold F_impl_runner_step
 refine J_sr (JA rfl rfl (JL_nt (J_sr (JM rfl rfl (JL_bnd fun r1 hr2 => JL_call wn rfl Try.call61 rfl (Ca_of0 fun w hh => c_impl_runner_rule _ w (fun _ hk => hk.elim) _ _ (hh.bx_pa 1 rfl (Grunner.rdmk (Rd.mk_int _ _ _) (Rd.mk_int _ _ _) (hh.rd0 0 rfl) (Rd.mk_int _ _ _) (hh.ow0 2 rfl) (hh.ow0 3 rfl)) rfl) _ hr2) (fun _ => JL_st wn rfl (st_alloc zi_88 rfl) (fun b3 => JL_sk wn (sk_store_bx' 0 ti_88 rfl rfl (fun w hh => (cv_aggs ⟨cv_int, cv_int, cv_int, trivial⟩)) rfl rfl rfl rfl) (JL_nt (J_sr (JM rfl rfl (JM rfl rfl (JL_q wn rfl (ex_nilCheck rfl) (JL_q wn rfl (ex_fieldAddr fi_95_3 rfl rfl) (JL_q wn rfl (ex_load_bx 2 ti_29 rfl rfl rfl) (JL_inline wn rfl Try.call62 rfl Try.func62 rfl Try.ntmps62 rfl rfl (fun K_ hK4 => J_sr (JA rfl rfl (JL_nt (J_sr (JM rfl rfl (JM rfl rfl (JL_q wn rfl (ex_len_ow 4 Try.underlying29 rfl rfl) ?_))))))))))))))))))))))
 refine JL_q wn rfl (ex_sub rfl rfl) (JL_q wn rfl (ex_max rfl rfl) (JL_bnd fun z5 hz6 => JL_st wn rfl (st_slice_own 4 Try.underlying29 ti_2 rfl rfl rfl hz6) (fun v7 => JA rfl rfl (JL_nt (J_ret (N_inl1 hK4 rfl (rv_tmp rfl) (JL_q wn rfl (ex_nilCheck rfl) (JL_q wn rfl (ex_fieldAddr fi_95_3 rfl rfl) (JL_sk wn (sk_store_bx' 2 ti_29 rfl rfl (fun w hh => (hh.cv_ow 4 rfl)) rfl rfl rfl rfl) (JL_nt (J_seq (J_cut' (S' := (List Int) × (List Int)) (G' := Value × Value) (fun s8 g9 => [(0, .pointer (some ⟨b0_, 0, none⟩)), (3, .pointer (some ⟨b3, 0, none⟩))]) (fun s8 g9 => [rest w B_, .rd v0_2 p0.m_Rules, .ow 2 g9.1 s8.1, .ow 2 g9.2 s8.2, .bx b0_ 95 [.int .i64 p0.m_Symbols, .int .i64 p0.m_States, v0_2, .int .i64 p0.state, g9.1, g9.2], .bx b3 88 [.int .i64 r1.Write, .int .i64 r1.Move, .int .i64 r1.Next], .tkn (.int .i64 0) (0 : Int) (restL w B_)]) ?_ (fun s8 g9 => ?_)))))))))))))
 ·refine J_sr (JL_q wn rfl (ex_fieldAddr fi_88_1 rfl rfl) (JL_q wn rfl (ex_load_bx 0 ti_2 rfl rfl rfl) (JL_q wn rfl (ex_gtr rfl rfl) (JL_nt (J_if rfl (fun h10 => ?_) (fun h10 => ?_))))))
  ·refine J_draw [2, 3, 4] (by kernel_rfl) ?_
   refine JP_take (i := 0) [0, 1, 5, 6] [2, 3, 4] rfl (by kernel_rfl) (by kernel_rfl) (by kernel_rfl) rfl rfl wn rfl (ex_move rfl) ?_
   refine JP_take (i := 1) [0, 1, 5, 6] [2, 3, 4] rfl (by kernel_rfl) (by kernel_rfl) (by kernel_rfl) rfl rfl wn rfl (ex_move rfl) ?_
   refine JP_take (i := 2) [0, 1, 5, 6] [2, 3, 4] rfl (by kernel_rfl) (by kernel_rfl) (by kernel_rfl) rfl rfl wn rfl (ex_nilCheck rfl) ?_
   refine JP_take (i := 3) [0, 1, 5, 6] [2, 3, 4] rfl (by kernel_rfl) (by kernel_rfl) (by kernel_rfl) rfl rfl wn rfl (ex_fieldAddr fi_95_2 rfl rfl) ?_
   refine JP_take (i := 5) [0, 1, 5, 6] [2, 3, 4] rfl (by kernel_rfl) (by kernel_rfl) (by kernel_rfl) rfl rfl wn rfl (ex_fieldAddr fi_88_0 rfl rfl) ?_
   refine JP_take (i := 6) [0, 1, 5, 6] [2, 3, 4] rfl (by kernel_rfl) (by kernel_rfl) (by kernel_rfl) rfl rfl wn rfl (ex_load_bx 0 ti_2 rfl rfl rfl) ?_
   refine JP_go [0, 1, 5, 6] [2, 3, 4] rfl rfl rfl (fun w12 h1_13 hp11 => JD_one (i := 4) (by kernel_rfl) ?_)
   refine JO_q rfl wn rfl (ex_load_bx 2 ti_29 rfl rfl rfl) (JD_one (i := 7) (by kernel_rfl) ?_)
   refine JO_inline h1_13 [2, 3, 4] [0] rfl rfl rfl rfl wn rfl Try.call63 rfl Try.func63 rfl Try.ntmps63 rfl rfl (fun C15 K_ hK14 => J_sr (JA rfl rfl (JL_nt (J_seq (J_sr (JM rfl rfl (JL_q wn rfl (ex_eql rfl rfl) (JM rfl rfl (JL_cond (fun h16 => ?_) (fun h16 => ?_))))))))))
   ·refine JL_q (wants_some rfl rfl rfl h16) rfl (ex_move rfl) (JL_q (wants_some rfl rfl rfl h16) rfl (ex_len_ow 4 Try.underlying29 rfl rfl) (JL_q (wants_some rfl rfl rfl h16) rfl (ex_eql rfl rfl) (JL_q wn rfl (ex_pick_true rfl h16 rfl) (JL_nt (J_if rfl (fun h17 => ?_) (fun h17 => ?_))))))
    ·refine J_sr (JM rfl rfl (JA rfl rfl (JL_nt (J_ret (N_then_ret (N_inlD1 hK14 rfl (rv_tmp rfl) 0 [1] rfl rfl (JD_take (i := 8) hp11 rfl (by kernel_rfl) (by kernel_rfl) (by kernel_rfl) wn rfl (ex_nilCheck rfl) ?_)))))))
     refine JD_take (i := 9) hp11 rfl (by kernel_rfl) (by kernel_rfl) (by kernel_rfl) wn rfl (ex_fieldAddr fi_95_2 rfl rfl) ?_
     refine JD_one (i := 10) (by kernel_rfl) ?_
     refine JO_sk rfl wn (sk_store_bx' 3 ti_29 rfl rfl (fun w hh => (hh.cv_ow 4 rfl)) rfl rfl rfl rfl) (sub_bx 0 rfl) (JD_done (by kernel_rfl) ?_)
     exact N_meet' (v0_4, v7) ⟨rfl, rfl, trivial⟩ [7, 2, 4, 5, 3, 1, 6] rfl rfl
    ·refine J_skip (N_then (J_sr (JM rfl rfl (JM rfl rfl (JL_st wn rfl (st_buildSlice (vs := [.int .i64 r1.Write]) ([r1.Write] : List Int) Try.underlying29 ti_2 zi_2 rfl rfl rfl (fun w hh => ⟨(Rd.mk_int _ _ _), trivial⟩)) (fun b18 => JL_bnd fun z19 hz20 => JL_st wn rfl (st_append 5 Try.underlying29 ti_2 zi_2 rfl bi_2 rfl rfl rfl rfl (fun w hh => hh.src_ow 0 rfl) hz20) (fun v21 => JA rfl rfl (JL_nt (J_ret (N_inlD1 hK14 rfl (rv_tmp rfl) 1 [2] rfl rfl (JD_take (i := 8) hp11 rfl (by kernel_rfl) (by kernel_rfl) (by kernel_rfl) wn rfl (ex_nilCheck rfl) ?_)))))))))))
     refine JD_take (i := 9) hp11 rfl (by kernel_rfl) (by kernel_rfl) (by kernel_rfl) wn rfl (ex_fieldAddr fi_95_2 rfl rfl) ?_
     refine JD_one (i := 10) (by kernel_rfl) ?_
     refine JO_sk rfl wn (sk_store_bx' 4 ti_29 rfl rfl (fun w hh => (hh.cv_ow 5 rfl)) rfl rfl rfl rfl) (sub_bx 0 rfl) (JD_done (by kernel_rfl) ?_)
     exact N_meet' (v21, v7) ⟨rfl, rfl, trivial⟩ [8, 3, 5, 6, 4, 2, 7] rfl rfl
   ·refine JL_passed rfl rfl rfl h16 (JL_passed rfl rfl rfl h16 (JL_passed rfl rfl rfl h16 (JL_q wn rfl (ex_pick_false rfl h16 rfl) (JL_nt (J_if_false rfl rfl (J_skip (N_then (J_sr (JM rfl rfl (JM rfl rfl (JL_st wn rfl (st_buildSlice (vs := [.int .i64 r1.Write]) ([r1.Write] : List Int) Try.underlying29 ti_2 zi_2 rfl rfl rfl (fun w hh => ⟨(Rd.mk_int _ _ _), trivial⟩)) (fun b22 => JL_bnd fun z23 hz24 => JL_st wn rfl (st_append 5 Try.underlying29 ti_2 zi_2 rfl bi_2 rfl rfl rfl rfl (fun w hh => hh.src_ow 0 rfl) hz24) (fun v25 => JA rfl rfl (JL_nt (J_ret (N_inlD1 hK14 rfl (rv_tmp rfl) 1 [2] rfl rfl (JD_take (i := 8) hp11 rfl (by kernel_rfl) (by kernel_rfl) (by kernel_rfl) wn rfl (ex_nilCheck rfl) ?_)))))))))))))))))
    refine JD_take (i := 9) hp11 rfl (by kernel_rfl) (by kernel_rfl) (by kernel_rfl) wn rfl (ex_fieldAddr fi_95_2 rfl rfl) ?_
    refine JD_one (i := 10) (by kernel_rfl) ?_
    refine JO_sk rfl wn (sk_store_bx' 4 ti_29 rfl rfl (fun w hh => (hh.cv_ow 5 rfl)) rfl rfl rfl rfl) (sub_bx 0 rfl) (JD_done (by kernel_rfl) ?_)
    exact N_meet' (v25, v7) ⟨rfl, rfl, trivial⟩ [8, 3, 5, 6, 4, 2, 7] rfl rfl
  ·refine J_seq (J_cut' (S' := (List Int)) (G' := Value) (fun s26 g27 => [(0, .pointer (some ⟨b0_, 0, none⟩)), (3, .pointer (some ⟨b3, 0, none⟩))]) (fun s26 g27 => [rest w B_, .rd v0_2 p0.m_Rules, .ow 2 v0_4 p0.left, .ow 2 g27 s26, .bx b0_ 95 [.int .i64 p0.m_Symbols, .int .i64 p0.m_States, v0_2, .int .i64 p0.state, v0_4, g27], .bx b3 88 [.int .i64 r1.Write, .int .i64 r1.Move, .int .i64 r1.Next], .tkn (.int .i64 0) (0 : Int) (restL w B_)]) ?_ (fun s26 g27 => ?_))
   ·refine J_draw [2, 3, 4] (by kernel_rfl) ?_
    refine JP_take (i := 0) [0, 1, 5, 6] [2, 3, 4] rfl (by kernel_rfl) (by kernel_rfl) (by kernel_rfl) rfl rfl wn rfl (ex_move rfl) ?_
    refine JP_take (i := 1) [0, 1, 5, 6] [2, 3, 4] rfl (by kernel_rfl) (by kernel_rfl) (by kernel_rfl) rfl rfl wn rfl (ex_move rfl) ?_
    refine JP_take (i := 2) [0, 1, 5, 6] [2, 3, 4] rfl (by kernel_rfl) (by kernel_rfl) (by kernel_rfl) rfl rfl wn rfl (ex_nilCheck rfl) ?_
    refine JP_take (i := 3) [0, 1, 5, 6] [2, 3, 4] rfl (by kernel_rfl) (by kernel_rfl) (by kernel_rfl) rfl rfl wn rfl (ex_fieldAddr fi_95_3 rfl rfl) ?_
    refine JP_take (i := 5) [0, 1, 5, 6] [2, 3, 4] rfl (by kernel_rfl) (by kernel_rfl) (by kernel_rfl) rfl rfl wn rfl (ex_fieldAddr fi_88_0 rfl rfl) ?_
    refine JP_take (i := 6) [0, 1, 5, 6] [2, 3, 4] rfl (by kernel_rfl) (by kernel_rfl) (by kernel_rfl) rfl rfl wn rfl (ex_load_bx 0 ti_2 rfl rfl rfl) ?_
    refine JP_take (i := 8) [0, 1, 5, 6] [2, 3, 4] rfl (by kernel_rfl) (by kernel_rfl) (by kernel_rfl) rfl rfl wn rfl (ex_move rfl) ?_
    refine JP_take (i := 9) [0, 1, 5, 6] [2, 3, 4] rfl (by kernel_rfl) (by kernel_rfl) (by kernel_rfl) rfl rfl wn rfl (ex_nilCheck rfl) ?_
    refine JP_take (i := 10) [0, 1, 5, 6] [2, 3, 4] rfl (by kernel_rfl) (by kernel_rfl) (by kernel_rfl) rfl rfl wn rfl (ex_fieldAddr fi_95_2 rfl rfl) ?_
    refine JP_go [0, 1, 5, 6] [2, 3, 4] rfl rfl rfl (fun w29 h1_30 hp28 => JD_two (i := 4) (j := 11) (by kernel_rfl) ?_ ?_)
    ·refine JO_q rfl wn rfl (ex_load_bx 2 ti_29 rfl rfl rfl) (JD_two (i := 7) (j := 11) (by kernel_rfl) ?_ ?_)
     ·refine JO_inline h1_30 [2, 3, 4] [0] rfl rfl rfl rfl wn rfl Try.call63 rfl Try.func63 rfl Try.ntmps63 rfl rfl (fun C32 K_ hK31 => J_sr (JA rfl rfl (JL_nt (J_seq (J_sr (JM rfl rfl (JL_q wn rfl (ex_eql rfl rfl) (JM rfl rfl (JL_cond (fun h33 => ?_) (fun h33 => ?_))))))))))
      ·refine JL_q (wants_some rfl rfl rfl h33) rfl (ex_move rfl) (JL_q (wants_some rfl rfl rfl h33) rfl (ex_len_ow 5 Try.underlying29 rfl rfl) (JL_q (wants_some rfl rfl rfl h33) rfl (ex_eql rfl rfl) (JL_q wn rfl (ex_pick_true rfl h33 rfl) (JL_nt (J_if rfl (fun h34 => ?_) (fun h34 => ?_))))))
       ·refine J_sr (JM rfl rfl (JA rfl rfl (JL_nt (J_ret (N_then_ret (N_inlD1 hK31 rfl (rv_tmp rfl) 0 [1] rfl rfl (JD_one (i := 11) (by kernel_rfl) ?_)))))))
        refine JO_q rfl wn rfl (ex_load_bx 3 ti_29 rfl rfl rfl) (JD_bnd fun r35 hr36 => JD_one (i := 12) (by kernel_rfl) ?_)
        refine JO_call rfl wn rfl Try.call64 rfl (Ca_of0 fun w hh => c_impl_nearest _ w (fun _ hk => hk.elim) _ _ (hh.ow0 4 rfl) _ hr36) (fun _ => JD_one (i := 13) (by kernel_rfl) ?_)
        refine JO_inline h1_30 [2, 3, 4] [0] rfl rfl rfl rfl wn rfl Try.call63 rfl Try.func63 rfl Try.ntmps63 rfl rfl (fun C38 K_ hK37 => J_sr (JA rfl rfl (JL_nt (J_seq (J_sr (JM rfl rfl (JL_q wn rfl (ex_eql rfl rfl) (JM rfl rfl (JL_cond (fun h39 => ?_) (fun h39 => ?_))))))))))
        ·refine JL_q (wants_some rfl rfl rfl h39) rfl (ex_move rfl) (JL_q (wants_some rfl rfl rfl h39) rfl (ex_len_ow 6 Try.underlying29 rfl rfl) (JL_q (wants_some rfl rfl rfl h39) rfl (ex_eql rfl rfl) (JL_q wn rfl (ex_pick_true rfl h39 rfl) (JL_nt (J_if_true rfl h34 (J_sr (JM rfl rfl (JA rfl rfl (JL_nt (J_ret (N_then_ret (N_inlD1 hK37 rfl (rv_tmp rfl) 0 [2] rfl rfl (JD_take (i := 14) hp28 rfl (by kernel_rfl) (by kernel_rfl) (by kernel_rfl) wn rfl (ex_nilCheck rfl) ?_)))))))))))))
         refine JD_take (i := 15) hp28 rfl (by kernel_rfl) (by kernel_rfl) (by kernel_rfl) wn rfl (ex_fieldAddr fi_95_3 rfl rfl) ?_
         refine JD_one (i := 16) (by kernel_rfl) ?_
         refine JO_sk rfl wn (sk_store_bx' 4 ti_29 rfl rfl (fun w hh => (hh.cv_ow 6 rfl)) rfl rfl rfl rfl) (sub_bx 0 rfl) (JD_done (by kernel_rfl) ?_)
         exact N_meet' v7 ⟨rfl, rfl, trivial⟩ [8, 3, 5, 6, 4, 2, 7] rfl rfl
        ·refine JL_passed rfl rfl rfl h39 (JL_passed rfl rfl rfl h39 (JL_passed rfl rfl rfl h39 (JL_q wn rfl (ex_pick_false rfl h39 rfl) (JL_nt (J_if_false rfl rfl (J_skip (N_then (J_sr (JM rfl rfl (JM rfl rfl (JL_st wn rfl (st_buildSlice (vs := [.int .i64 r35]) ([r35] : List Int) Try.underlying29 ti_2 zi_2 rfl rfl rfl (fun w hh => ⟨(Rd.mk_int _ _ _), trivial⟩)) (fun b40 => JL_bnd fun z41 hz42 => JL_st wn rfl (st_append 7 Try.underlying29 ti_2 zi_2 rfl bi_2 rfl rfl rfl rfl (fun w hh => hh.src_ow 0 rfl) hz42) (fun v43 => JA rfl rfl (JL_nt (J_ret (N_inlD1 hK37 rfl (rv_tmp rfl) 1 [3] rfl rfl (JD_take (i := 14) hp28 rfl (by kernel_rfl) (by kernel_rfl) (by kernel_rfl) wn rfl (ex_nilCheck rfl) ?_)))))))))))))))))
         refine JD_take (i := 15) hp28 rfl (by kernel_rfl) (by kernel_rfl) (by kernel_rfl) wn rfl (ex_fieldAddr fi_95_3 rfl rfl) ?_
         refine JD_one (i := 16) (by kernel_rfl) ?_
         refine JO_sk rfl wn (sk_store_bx' 5 ti_29 rfl rfl (fun w hh => (hh.cv_ow 7 rfl)) rfl rfl rfl rfl) (sub_bx 0 rfl) (JD_done (by kernel_rfl) ?_)
         exact N_meet' v43 ⟨rfl, rfl, trivial⟩ [9, 4, 6, 7, 5, 3, 8] rfl rfl
       ·refine J_skip (N_then (J_sr (JM rfl rfl (JM rfl rfl (JL_st wn rfl (st_buildSlice (vs := [.int .i64 r1.Write]) ([r1.Write] : List Int) Try.underlying29 ti_2 zi_2 rfl rfl rfl (fun w hh => ⟨(Rd.mk_int _ _ _), trivial⟩)) (fun b44 => JL_bnd fun z45 hz46 => JL_st wn rfl (st_append 6 Try.underlying29 ti_2 zi_2 rfl bi_2 rfl rfl rfl rfl (fun w hh => hh.src_ow 0 rfl) hz46) (fun v47 => JA rfl rfl (JL_nt (J_ret (N_inlD1 hK31 rfl (rv_tmp rfl) 1 [2] rfl rfl (JD_one (i := 11) (by kernel_rfl) ?_)))))))))))
        refine JO_q rfl wn rfl (ex_load_bx 4 ti_29 rfl rfl rfl) (JD_bnd fun r48 hr49 => JD_one (i := 12) (by kernel_rfl) ?_)
        refine JO_call rfl wn rfl Try.call64 rfl (Ca_of0 fun w hh => c_impl_nearest _ w (fun _ hk => hk.elim) _ _ (hh.ow0 5 rfl) _ hr49) (fun _ => JD_one (i := 13) (by kernel_rfl) ?_)
        refine JO_inline h1_30 [2, 3, 4] [0] rfl rfl rfl rfl wn rfl Try.call63 rfl Try.func63 rfl Try.ntmps63 rfl rfl (fun C51 K_ hK50 => J_sr (JA rfl rfl (JL_nt (J_seq (J_sr (JM rfl rfl (JL_q wn rfl (ex_eql rfl rfl) (JM rfl rfl (JL_cond (fun h52 => ?_) (fun h52 => ?_))))))))))
        ·refine JL_q (wants_some rfl rfl rfl h52) rfl (ex_move rfl) (JL_q (wants_some rfl rfl rfl h52) rfl (ex_len_ow 7 Try.underlying29 rfl rfl) (JL_q (wants_some rfl rfl rfl h52) rfl (ex_eql rfl rfl) (JL_q wn rfl (ex_pick_true rfl h52 rfl) (JL_nt (J_if rfl (fun h53 => ?_) (fun h53 => ?_))))))
         ·refine J_sr (JM rfl rfl (JA rfl rfl (JL_nt (J_ret (N_then_ret (N_inlD1 hK50 rfl (rv_tmp rfl) 0 [3] rfl rfl (JD_take (i := 14) hp28 rfl (by kernel_rfl) (by kernel_rfl) (by kernel_rfl) wn rfl (ex_nilCheck rfl) ?_)))))))
          refine JD_take (i := 15) hp28 rfl (by kernel_rfl) (by kernel_rfl) (by kernel_rfl) wn rfl (ex_fieldAddr fi_95_3 rfl rfl) ?_
          refine JD_one (i := 16) (by kernel_rfl) ?_
          refine JO_sk rfl wn (sk_store_bx' 5 ti_29 rfl rfl (fun w hh => (hh.cv_ow 7 rfl)) rfl rfl rfl rfl) (sub_bx 0 rfl) (JD_done (by kernel_rfl) ?_)
          exact N_meet' v47 ⟨rfl, rfl, trivial⟩ [9, 4, 6, 7, 5, 3, 8] rfl rfl
         ·refine J_skip (N_then (J_sr (JM rfl rfl (JM rfl rfl (JL_st wn rfl (st_buildSlice (vs := [.int .i64 r48]) ([r48] : List Int) Try.underlying29 ti_2 zi_2 rfl rfl rfl (fun w hh => ⟨(Rd.mk_int _ _ _), trivial⟩)) (fun b54 => JL_bnd fun z55 hz56 => JL_st wn rfl (st_append 8 Try.underlying29 ti_2 zi_2 rfl bi_2 rfl rfl rfl rfl (fun w hh => hh.src_ow 0 rfl) hz56) (fun v57 => JA rfl rfl (JL_nt (J_ret (N_inlD1 hK50 rfl (rv_tmp rfl) 1 [4] rfl rfl (JD_take (i := 14) hp28 rfl (by kernel_rfl) (by kernel_rfl) (by kernel_rfl) wn rfl (ex_nilCheck rfl) ?_)))))))))))
          refine JD_take (i := 15) hp28 rfl (by kernel_rfl) (by kernel_rfl) (by kernel_rfl) wn rfl (ex_fieldAddr fi_95_3 rfl rfl) ?_
          refine JD_one (i := 16) (by kernel_rfl) ?_
          refine JO_sk rfl wn (sk_store_bx' 6 ti_29 rfl rfl (fun w hh => (hh.cv_ow 8 rfl)) rfl rfl rfl rfl) (sub_bx 0 rfl) (JD_done (by kernel_rfl) ?_)
          exact N_meet' v57 ⟨rfl, rfl, trivial⟩ [10, 5, 7, 8, 6, 4, 9] rfl rfl
        ·refine JL_passed rfl rfl rfl h52 (JL_passed rfl rfl rfl h52 (JL_passed rfl rfl rfl h52 (JL_q wn rfl (ex_pick_false rfl h52 rfl) (JL_nt (J_if_false rfl rfl (J_skip (N_then (J_sr (JM rfl rfl (JM rfl rfl (JL_st wn rfl (st_buildSlice (vs := [.int .i64 r48]) ([r48] : List Int) Try.underlying29 ti_2 zi_2 rfl rfl rfl (fun w hh => ⟨(Rd.mk_int _ _ _), trivial⟩)) (fun b58 => JL_bnd fun z59 hz60 => JL_st wn rfl (st_append 8 Try.underlying29 ti_2 zi_2 rfl bi_2 rfl rfl rfl rfl (fun w hh => hh.src_ow 0 rfl) hz60) (fun v61 => JA rfl rfl (JL_nt (J_ret (N_inlD1 hK50 rfl (rv_tmp rfl) 1 [4] rfl rfl (JD_take (i := 14) hp28 rfl (by kernel_rfl) (by kernel_rfl) (by kernel_rfl) wn rfl (ex_nilCheck rfl) ?_)))))))))))))))))
         refine JD_take (i := 15) hp28 rfl (by kernel_rfl) (by kernel_rfl) (by kernel_rfl) wn rfl (ex_fieldAddr fi_95_3 rfl rfl) ?_
         refine JD_one (i := 16) (by kernel_rfl) ?_
         refine JO_sk rfl wn (sk_store_bx' 6 ti_29 rfl rfl (fun w hh => (hh.cv_ow 8 rfl)) rfl rfl rfl rfl) (sub_bx 0 rfl) (JD_done (by kernel_rfl) ?_)
         exact N_meet' v61 ⟨rfl, rfl, trivial⟩ [10, 5, 7, 8, 6, 4, 9] rfl rfl
      ·refine JL_passed rfl rfl rfl h33 (JL_passed rfl rfl rfl h33 (JL_passed rfl rfl rfl h33 (JL_q wn rfl (ex_pick_false rfl h33 rfl) (JL_nt (J_if_false rfl rfl (J_skip (N_then (J_sr (JM rfl rfl (JM rfl rfl (JL_st wn rfl (st_buildSlice (vs := [.int .i64 r1.Write]) ([r1.Write] : List Int) Try.underlying29 ti_2 zi_2 rfl rfl rfl (fun w hh => ⟨(Rd.mk_int _ _ _), trivial⟩)) (fun b62 => JL_bnd fun z63 hz64 => JL_st wn rfl (st_append 6 Try.underlying29 ti_2 zi_2 rfl bi_2 rfl rfl rfl rfl (fun w hh => hh.src_ow 0 rfl) hz64) (fun v65 => JA rfl rfl (JL_nt (J_ret (N_inlD1 hK31 rfl (rv_tmp rfl) 1 [2] rfl rfl (JD_one (i := 11) (by kernel_rfl) ?_)))))))))))))))))
       refine JO_q rfl wn rfl (ex_load_bx 4 ti_29 rfl rfl rfl) (JD_bnd fun r66 hr67 => JD_one (i := 12) (by kernel_rfl) ?_)
       refine JO_call rfl wn rfl Try.call64 rfl (Ca_of0 fun w hh => c_impl_nearest _ w (fun _ hk => hk.elim) _ _ (hh.ow0 5 rfl) _ hr67) (fun _ => JD_one (i := 13) (by kernel_rfl) ?_)
       refine JO_inline h1_30 [2, 3, 4] [0] rfl rfl rfl rfl wn rfl Try.call63 rfl Try.func63 rfl Try.ntmps63 rfl rfl (fun C69 K_ hK68 => J_sr (JA rfl rfl (JL_nt (J_seq (J_sr (JM rfl rfl (JL_q wn rfl (ex_eql rfl rfl) (JM rfl rfl (JL_cond (fun h70 => ?_) (fun h70 => ?_))))))))))
       ·refine JL_q (wants_some rfl rfl rfl h70) rfl (ex_move rfl) (JL_q (wants_some rfl rfl rfl h70) rfl (ex_len_ow 7 Try.underlying29 rfl rfl) (JL_q (wants_some rfl rfl rfl h70) rfl (ex_eql rfl rfl) (JL_q wn rfl (ex_pick_true rfl h70 rfl) (JL_nt (J_if rfl (fun h71 => ?_) (fun h71 => ?_))))))
        ·refine J_sr (JM rfl rfl (JA rfl rfl (JL_nt (J_ret (N_then_ret (N_inlD1 hK68 rfl (rv_tmp rfl) 0 [3] rfl rfl (JD_take (i := 14) hp28 rfl (by kernel_rfl) (by kernel_rfl) (by kernel_rfl) wn rfl (ex_nilCheck rfl) ?_)))))))
         refine JD_take (i := 15) hp28 rfl (by kernel_rfl) (by kernel_rfl) (by kernel_rfl) wn rfl (ex_fieldAddr fi_95_3 rfl rfl) ?_
         refine JD_one (i := 16) (by kernel_rfl) ?_
         refine JO_sk rfl wn (sk_store_bx' 5 ti_29 rfl rfl (fun w hh => (hh.cv_ow 7 rfl)) rfl rfl rfl rfl) (sub_bx 0 rfl) (JD_done (by kernel_rfl) ?_)
         exact N_meet' v65 ⟨rfl, rfl, trivial⟩ [9, 4, 6, 7, 5, 3, 8] rfl rfl
        ·refine J_skip (N_then (J_sr (JM rfl rfl (JM rfl rfl (JL_st wn rfl (st_buildSlice (vs := [.int .i64 r66]) ([r66] : List Int) Try.underlying29 ti_2 zi_2 rfl rfl rfl (fun w hh => ⟨(Rd.mk_int _ _ _), trivial⟩)) (fun b72 => JL_bnd fun z73 hz74 => JL_st wn rfl (st_append 8 Try.underlying29 ti_2 zi_2 rfl bi_2 rfl rfl rfl rfl (fun w hh => hh.src_ow 0 rfl) hz74) (fun v75 => JA rfl rfl (JL_nt (J_ret (N_inlD1 hK68 rfl (rv_tmp rfl) 1 [4] rfl rfl (JD_take (i := 14) hp28 rfl (by kernel_rfl) (by kernel_rfl) (by kernel_rfl) wn rfl (ex_nilCheck rfl) ?_)))))))))))
         refine JD_take (i := 15) hp28 rfl (by kernel_rfl) (by kernel_rfl) (by kernel_rfl) wn rfl (ex_fieldAddr fi_95_3 rfl rfl) ?_
         refine JD_one (i := 16) (by kernel_rfl) ?_
         refine JO_sk rfl wn (sk_store_bx' 6 ti_29 rfl rfl (fun w hh => (hh.cv_ow 8 rfl)) rfl rfl rfl rfl) (sub_bx 0 rfl) (JD_done (by kernel_rfl) ?_)
         exact N_meet' v75 ⟨rfl, rfl, trivial⟩ [10, 5, 7, 8, 6, 4, 9] rfl rfl
       ·refine JL_passed rfl rfl rfl h70 (JL_passed rfl rfl rfl h70 (JL_passed rfl rfl rfl h70 (JL_q wn rfl (ex_pick_false rfl h70 rfl) (JL_nt (J_if_false rfl rfl (J_skip (N_then (J_sr (JM rfl rfl (JM rfl rfl (JL_st wn rfl (st_buildSlice (vs := [.int .i64 r66]) ([r66] : List Int) Try.underlying29 ti_2 zi_2 rfl rfl rfl (fun w hh => ⟨(Rd.mk_int _ _ _), trivial⟩)) (fun b76 => JL_bnd fun z77 hz78 => JL_st wn rfl (st_append 8 Try.underlying29 ti_2 zi_2 rfl bi_2 rfl rfl rfl rfl (fun w hh => hh.src_ow 0 rfl) hz78) (fun v79 => JA rfl rfl (JL_nt (J_ret (N_inlD1 hK68 rfl (rv_tmp rfl) 1 [4] rfl rfl (JD_take (i := 14) hp28 rfl (by kernel_rfl) (by kernel_rfl) (by kernel_rfl) wn rfl (ex_nilCheck rfl) ?_)))))))))))))))))
        refine JD_take (i := 15) hp28 rfl (by kernel_rfl) (by kernel_rfl) (by kernel_rfl) wn rfl (ex_fieldAddr fi_95_3 rfl rfl) ?_
        refine JD_one (i := 16) (by kernel_rfl) ?_
        refine JO_sk rfl wn (sk_store_bx' 6 ti_29 rfl rfl (fun w hh => (hh.cv_ow 8 rfl)) rfl rfl rfl rfl) (sub_bx 0 rfl) (JD_done (by kernel_rfl) ?_)
        exact N_meet' v79 ⟨rfl, rfl, trivial⟩ [10, 5, 7, 8, 6, 4, 9] rfl rfl
     ·refine JO_q rfl wn rfl (ex_load_bx 2 ti_29 rfl rfl rfl) (JD_one (i := 7) (by kernel_rfl) ?_)
      refine JO_inline h1_30 [2, 3, 4] [0] rfl rfl rfl rfl wn rfl Try.call63 rfl Try.func63 rfl Try.ntmps63 rfl rfl (fun C81 K_ hK80 => J_sr (JA rfl rfl (JL_nt (J_seq (J_sr (JM rfl rfl (JL_q wn rfl (ex_eql rfl rfl) (JM rfl rfl (JL_cond (fun h82 => ?_) (fun h82 => ?_))))))))))
      ·refine JL_q (wants_some rfl rfl rfl h82) rfl (ex_move rfl) (JL_q (wants_some rfl rfl rfl h82) rfl (ex_len_ow 5 Try.underlying29 rfl rfl) (JL_q (wants_some rfl rfl rfl h82) rfl (ex_eql rfl rfl) (JL_q wn rfl (ex_pick_true rfl h82 rfl) (JL_nt (J_if rfl (fun h83 => ?_) (fun h83 => ?_))))))
       ·refine J_sr (JM rfl rfl (JA rfl rfl (JL_nt (J_ret (N_then_ret (N_inlD1 hK80 rfl (rv_tmp rfl) 0 [1] rfl rfl (JD_bnd fun r84 hr85 => JD_one (i := 12) (by kernel_rfl) ?_)))))))
        refine JO_call rfl wn rfl Try.call64 rfl (Ca_of0 fun w hh => c_impl_nearest _ w (fun _ hk => hk.elim) _ _ (hh.ow0 4 rfl) _ hr85) (fun _ => JD_one (i := 13) (by kernel_rfl) ?_)
        refine JO_inline h1_30 [2, 3, 4] [0] rfl rfl rfl rfl wn rfl Try.call63 rfl Try.func63 rfl Try.ntmps63 rfl rfl (fun C87 K_ hK86 => J_sr (JA rfl rfl (JL_nt (J_seq (J_sr (JM rfl rfl (JL_q wn rfl (ex_eql rfl rfl) (JM rfl rfl (JL_cond (fun h88 => ?_) (fun h88 => ?_))))))))))
        ·refine JL_q (wants_some rfl rfl rfl h88) rfl (ex_move rfl) (JL_q (wants_some rfl rfl rfl h88) rfl (ex_len_ow 6 Try.underlying29 rfl rfl) (JL_q (wants_some rfl rfl rfl h88) rfl (ex_eql rfl rfl) (JL_q wn rfl (ex_pick_true rfl h88 rfl) (JL_nt (J_if_true rfl h83 (J_sr (JM rfl rfl (JA rfl rfl (JL_nt (J_ret (N_then_ret (N_inlD1 hK86 rfl (rv_tmp rfl) 0 [2] rfl rfl (JD_take (i := 14) hp28 rfl (by kernel_rfl) (by kernel_rfl) (by kernel_rfl) wn rfl (ex_nilCheck rfl) ?_)))))))))))))
         refine JD_take (i := 15) hp28 rfl (by kernel_rfl) (by kernel_rfl) (by kernel_rfl) wn rfl (ex_fieldAddr fi_95_3 rfl rfl) ?_
         refine JD_one (i := 16) (by kernel_rfl) ?_
         refine JO_sk rfl wn (sk_store_bx' 4 ti_29 rfl rfl (fun w hh => (hh.cv_ow 6 rfl)) rfl rfl rfl rfl) (sub_bx 0 rfl) (JD_done (by kernel_rfl) ?_)
         exact N_meet' v7 ⟨rfl, rfl, trivial⟩ [8, 3, 5, 6, 4, 2, 7] rfl rfl
        ·refine JL_passed rfl rfl rfl h88 (JL_passed rfl rfl rfl h88 (JL_passed rfl rfl rfl h88 (JL_q wn rfl (ex_pick_false rfl h88 rfl) (JL_nt (J_if_false rfl rfl (J_skip (N_then (J_sr (JM rfl rfl (JM rfl rfl (JL_st wn rfl (st_buildSlice (vs := [.int .i64 r84]) ([r84] : List Int) Try.underlying29 ti_2 zi_2 rfl rfl rfl (fun w hh => ⟨(Rd.mk_int _ _ _), trivial⟩)) (fun b89 => JL_bnd fun z90 hz91 => JL_st wn rfl (st_append 7 Try.underlying29 ti_2 zi_2 rfl bi_2 rfl rfl rfl rfl (fun w hh => hh.src_ow 0 rfl) hz91) (fun v92 => JA rfl rfl (JL_nt (J_ret (N_inlD1 hK86 rfl (rv_tmp rfl) 1 [3] rfl rfl (JD_take (i := 14) hp28 rfl (by kernel_rfl) (by kernel_rfl) (by kernel_rfl) wn rfl (ex_nilCheck rfl) ?_)))))))))))))))))
         refine JD_take (i := 15) hp28 rfl (by kernel_rfl) (by kernel_rfl) (by kernel_rfl) wn rfl (ex_fieldAddr fi_95_3 rfl rfl) ?_
         refine JD_one (i := 16) (by kernel_rfl) ?_
         refine JO_sk rfl wn (sk_store_bx' 5 ti_29 rfl rfl (fun w hh => (hh.cv_ow 7 rfl)) rfl rfl rfl rfl) (sub_bx 0 rfl) (JD_done (by kernel_rfl) ?_)
         exact N_meet' v92 ⟨rfl, rfl, trivial⟩ [9, 4, 6, 7, 5, 3, 8] rfl rfl
       ·refine J_skip (N_then (J_sr (JM rfl rfl (JM rfl rfl (JL_st wn rfl (st_buildSlice (vs := [.int .i64 r1.Write]) ([r1.Write] : List Int) Try.underlying29 ti_2 zi_2 rfl rfl rfl (fun w hh => ⟨(Rd.mk_int _ _ _), trivial⟩)) (fun b93 => JL_bnd fun z94 hz95 => JL_st wn rfl (st_append 6 Try.underlying29 ti_2 zi_2 rfl bi_2 rfl rfl rfl rfl (fun w hh => hh.src_ow 0 rfl) hz95) (fun v96 => JA rfl rfl (JL_nt (J_ret (N_inlD1 hK80 rfl (rv_tmp rfl) 1 [2] rfl rfl (JD_bnd fun r97 hr98 => JD_one (i := 12) (by kernel_rfl) ?_)))))))))))
        refine JO_call rfl wn rfl Try.call64 rfl (Ca_of0 fun w hh => c_impl_nearest _ w (fun _ hk => hk.elim) _ _ (hh.ow0 5 rfl) _ hr98) (fun _ => JD_one (i := 13) (by kernel_rfl) ?_)
        refine JO_inline h1_30 [2, 3, 4] [0] rfl rfl rfl rfl wn rfl Try.call63 rfl Try.func63 rfl Try.ntmps63 rfl rfl (fun C100 K_ hK99 => J_sr (JA rfl rfl (JL_nt (J_seq (J_sr (JM rfl rfl (JL_q wn rfl (ex_eql rfl rfl) (JM rfl rfl (JL_cond (fun h101 => ?_) (fun h101 => ?_))))))))))
        ·refine JL_q (wants_some rfl rfl rfl h101) rfl (ex_move rfl) (JL_q (wants_some rfl rfl rfl h101) rfl (ex_len_ow 7 Try.underlying29 rfl rfl) (JL_q (wants_some rfl rfl rfl h101) rfl (ex_eql rfl rfl) (JL_q wn rfl (ex_pick_true rfl h101 rfl) (JL_nt (J_if rfl (fun h102 => ?_) (fun h102 => ?_))))))
         ·refine J_sr (JM rfl rfl (JA rfl rfl (JL_nt (J_ret (N_then_ret (N_inlD1 hK99 rfl (rv_tmp rfl) 0 [3] rfl rfl (JD_take (i := 14) hp28 rfl (by kernel_rfl) (by kernel_rfl) (by kernel_rfl) wn rfl (ex_nilCheck rfl) ?_)))))))
          refine JD_take (i := 15) hp28 rfl (by kernel_rfl) (by kernel_rfl) (by kernel_rfl) wn rfl (ex_fieldAddr fi_95_3 rfl rfl) ?_
          refine JD_one (i := 16) (by kernel_rfl) ?_
          refine JO_sk rfl wn (sk_store_bx' 5 ti_29 rfl rfl (fun w hh => (hh.cv_ow 7 rfl)) rfl rfl rfl rfl) (sub_bx 0 rfl) (JD_done (by kernel_rfl) ?_)
          exact N_meet' v96 ⟨rfl, rfl, trivial⟩ [9, 4, 6, 7, 5, 3, 8] rfl rfl
         ·refine J_skip (N_then (J_sr (JM rfl rfl (JM rfl rfl (JL_st wn rfl (st_buildSlice (vs := [.int .i64 r97]) ([r97] : List Int) Try.underlying29 ti_2 zi_2 rfl rfl rfl (fun w hh => ⟨(Rd.mk_int _ _ _), trivial⟩)) (fun b103 => JL_bnd fun z104 hz105 => JL_st wn rfl (st_append 8 Try.underlying29 ti_2 zi_2 rfl bi_2 rfl rfl rfl rfl (fun w hh => hh.src_ow 0 rfl) hz105) (fun v106 => JA rfl rfl (JL_nt (J_ret (N_inlD1 hK99 rfl (rv_tmp rfl) 1 [4] rfl rfl (JD_take (i := 14) hp28 rfl (by kernel_rfl) (by kernel_rfl) (by kernel_rfl) wn rfl (ex_nilCheck rfl) ?_)))))))))))
          refine JD_take (i := 15) hp28 rfl (by kernel_rfl) (by kernel_rfl) (by kernel_rfl) wn rfl (ex_fieldAddr fi_95_3 rfl rfl) ?_
          refine JD_one (i := 16) (by kernel_rfl) ?_
          refine JO_sk rfl wn (sk_store_bx' 6 ti_29 rfl rfl (fun w hh => (hh.cv_ow 8 rfl)) rfl rfl rfl rfl) (sub_bx 0 rfl) (JD_done (by kernel_rfl) ?_)
          exact N_meet' v106 ⟨rfl, rfl, trivial⟩ [10, 5, 7, 8, 6, 4, 9] rfl rfl
        ·refine JL_passed rfl rfl rfl h101 (JL_passed rfl rfl rfl h101 (JL_passed rfl rfl rfl h101 (JL_q wn rfl (ex_pick_false rfl h101 rfl) (JL_nt (J_if_false rfl rfl (J_skip (N_then (J_sr (JM rfl rfl (JM rfl rfl (JL_st wn rfl (st_buildSlice (vs := [.int .i64 r97]) ([r97] : List Int) Try.underlying29 ti_2 zi_2 rfl rfl rfl (fun w hh => ⟨(Rd.mk_int _ _ _), trivial⟩)) (fun b107 => JL_bnd fun z108 hz109 => JL_st wn rfl (st_append 8 Try.underlying29 ti_2 zi_2 rfl bi_2 rfl rfl rfl rfl (fun w hh => hh.src_ow 0 rfl) hz109) (fun v110 => JA rfl rfl (JL_nt (J_ret (N_inlD1 hK99 rfl (rv_tmp rfl) 1 [4] rfl rfl (JD_take (i := 14) hp28 rfl (by kernel_rfl) (by kernel_rfl) (by kernel_rfl) wn rfl (ex_nilCheck rfl) ?_)))))))))))))))))
         refine JD_take (i := 15) hp28 rfl (by kernel_rfl) (by kernel_rfl) (by kernel_rfl) wn rfl (ex_fieldAddr fi_95_3 rfl rfl) ?_
         refine JD_one (i := 16) (by kernel_rfl) ?_
         refine JO_sk rfl wn (sk_store_bx' 6 ti_29 rfl rfl (fun w hh => (hh.cv_ow 8 rfl)) rfl rfl rfl rfl) (sub_bx 0 rfl) (JD_done (by kernel_rfl) ?_)
         exact N_meet' v110 ⟨rfl, rfl, trivial⟩ [10, 5, 7, 8, 6, 4, 9] rfl rfl
      ·refine JL_passed rfl rfl rfl h82 (JL_passed rfl rfl rfl h82 (JL_passed rfl rfl rfl h82 (JL_q wn rfl (ex_pick_false rfl h82 rfl) (JL_nt (J_if_false rfl rfl (J_skip (N_then (J_sr (JM rfl rfl (JM rfl rfl (JL_st wn rfl (st_buildSlice (vs := [.int .i64 r1.Write]) ([r1.Write] : List Int) Try.underlying29 ti_2 zi_2 rfl rfl rfl (fun w hh => ⟨(Rd.mk_int _ _ _), trivial⟩)) (fun b111 => JL_bnd fun z112 hz113 => JL_st wn rfl (st_append 6 Try.underlying29 ti_2 zi_2 rfl bi_2 rfl rfl rfl rfl (fun w hh => hh.src_ow 0 rfl) hz113) (fun v114 => JA rfl rfl (JL_nt (J_ret (N_inlD1 hK80 rfl (rv_tmp rfl) 1 [2] rfl rfl (JD_bnd fun r115 hr116 => JD_one (i := 12) (by kernel_rfl) ?_)))))))))))))))))
       refine JO_call rfl wn rfl Try.call64 rfl (Ca_of0 fun w hh => c_impl_nearest _ w (fun _ hk => hk.elim) _ _ (hh.ow0 5 rfl) _ hr116) (fun _ => JD_one (i := 13) (by kernel_rfl) ?_)
       refine JO_inline h1_30 [2, 3, 4] [0] rfl rfl rfl rfl wn rfl Try.call63 rfl Try.func63 rfl Try.ntmps63 rfl rfl (fun C118 K_ hK117 => J_sr (JA rfl rfl (JL_nt (J_seq (J_sr (JM rfl rfl (JL_q wn rfl (ex_eql rfl rfl) (JM rfl rfl (JL_cond (fun h119 => ?_) (fun h119 => ?_))))))))))
       ·refine JL_q (wants_some rfl rfl rfl h119) rfl (ex_move rfl) (JL_q (wants_some rfl rfl rfl h119) rfl (ex_len_ow 7 Try.underlying29 rfl rfl) (JL_q (wants_some rfl rfl rfl h119) rfl (ex_eql rfl rfl) (JL_q wn rfl (ex_pick_true rfl h119 rfl) (JL_nt (J_if rfl (fun h120 => ?_) (fun h120 => ?_))))))
        ·refine J_sr (JM rfl rfl (JA rfl rfl (JL_nt (J_ret (N_then_ret (N_inlD1 hK117 rfl (rv_tmp rfl) 0 [3] rfl rfl (JD_take (i := 14) hp28 rfl (by kernel_rfl) (by kernel_rfl) (by kernel_rfl) wn rfl (ex_nilCheck rfl) ?_)))))))
         refine JD_take (i := 15) hp28 rfl (by kernel_rfl) (by kernel_rfl) (by kernel_rfl) wn rfl (ex_fieldAddr fi_95_3 rfl rfl) ?_
         refine JD_one (i := 16) (by kernel_rfl) ?_
         refine JO_sk rfl wn (sk_store_bx' 5 ti_29 rfl rfl (fun w hh => (hh.cv_ow 7 rfl)) rfl rfl rfl rfl) (sub_bx 0 rfl) (JD_done (by kernel_rfl) ?_)
         exact N_meet' v114 ⟨rfl, rfl, trivial⟩ [9, 4, 6, 7, 5, 3, 8] rfl rfl
        ·refine J_skip (N_then (J_sr (JM rfl rfl (JM rfl rfl (JL_st wn rfl (st_buildSlice (vs := [.int .i64 r115]) ([r115] : List Int) Try.underlying29 ti_2 zi_2 rfl rfl rfl (fun w hh => ⟨(Rd.mk_int _ _ _), trivial⟩)) (fun b121 => JL_bnd fun z122 hz123 => JL_st wn rfl (st_append 8 Try.underlying29 ti_2 zi_2 rfl bi_2 rfl rfl rfl rfl (fun w hh => hh.src_ow 0 rfl) hz123) (fun v124 => JA rfl rfl (JL_nt (J_ret (N_inlD1 hK117 rfl (rv_tmp rfl) 1 [4] rfl rfl (JD_take (i := 14) hp28 rfl (by kernel_rfl) (by kernel_rfl) (by kernel_rfl) wn rfl (ex_nilCheck rfl) ?_)))))))))))
         refine JD_take (i := 15) hp28 rfl (by kernel_rfl) (by kernel_rfl) (by kernel_rfl) wn rfl (ex_fieldAddr fi_95_3 rfl rfl) ?_
         refine JD_one (i := 16) (by kernel_rfl) ?_
         refine JO_sk rfl wn (sk_store_bx' 6 ti_29 rfl rfl (fun w hh => (hh.cv_ow 8 rfl)) rfl rfl rfl rfl) (sub_bx 0 rfl) (JD_done (by kernel_rfl) ?_)
         exact N_meet' v124 ⟨rfl, rfl, trivial⟩ [10, 5, 7, 8, 6, 4, 9] rfl rfl
       ·refine JL_passed rfl rfl rfl h119 (JL_passed rfl rfl rfl h119 (JL_passed rfl rfl rfl h119 (JL_q wn rfl (ex_pick_false rfl h119 rfl) (JL_nt (J_if_false rfl rfl (J_skip (N_then (J_sr (JM rfl rfl (JM rfl rfl (JL_st wn rfl (st_buildSlice (vs := [.int .i64 r115]) ([r115] : List Int) Try.underlying29 ti_2 zi_2 rfl rfl rfl (fun w hh => ⟨(Rd.mk_int _ _ _), trivial⟩)) (fun b125 => JL_bnd fun z126 hz127 => JL_st wn rfl (st_append 8 Try.underlying29 ti_2 zi_2 rfl bi_2 rfl rfl rfl rfl (fun w hh => hh.src_ow 0 rfl) hz127) (fun v128 => JA rfl rfl (JL_nt (J_ret (N_inlD1 hK117 rfl (rv_tmp rfl) 1 [4] rfl rfl (JD_take (i := 14) hp28 rfl (by kernel_rfl) (by kernel_rfl) (by kernel_rfl) wn rfl (ex_nilCheck rfl) ?_)))))))))))))))))
        refine JD_take (i := 15) hp28 rfl (by kernel_rfl) (by kernel_rfl) (by kernel_rfl) wn rfl (ex_fieldAddr fi_95_3 rfl rfl) ?_
        refine JD_one (i := 16) (by kernel_rfl) ?_
        refine JO_sk rfl wn (sk_store_bx' 6 ti_29 rfl rfl (fun w hh => (hh.cv_ow 8 rfl)) rfl rfl rfl rfl) (sub_bx 0 rfl) (JD_done (by kernel_rfl) ?_)
        exact N_meet' v128 ⟨rfl, rfl, trivial⟩ [10, 5, 7, 8, 6, 4, 9] rfl rfl
    ·refine JO_q rfl wn rfl (ex_load_bx 2 ti_29 rfl rfl rfl) (JD_one (i := 4) (by kernel_rfl) ?_)
     refine JO_q rfl wn rfl (ex_load_bx 2 ti_29 rfl rfl rfl) (JD_one (i := 7) (by kernel_rfl) ?_)
     refine JO_inline h1_30 [2, 3, 4] [0] rfl rfl rfl rfl wn rfl Try.call63 rfl Try.func63 rfl Try.ntmps63 rfl rfl (fun C130 K_ hK129 => J_sr (JA rfl rfl (JL_nt (J_seq (J_sr (JM rfl rfl (JL_q wn rfl (ex_eql rfl rfl) (JM rfl rfl (JL_cond (fun h131 => ?_) (fun h131 => ?_))))))))))
     ·refine JL_q (wants_some rfl rfl rfl h131) rfl (ex_move rfl) (JL_q (wants_some rfl rfl rfl h131) rfl (ex_len_ow 5 Try.underlying29 rfl rfl) (JL_q (wants_some rfl rfl rfl h131) rfl (ex_eql rfl rfl) (JL_q wn rfl (ex_pick_true rfl h131 rfl) (JL_nt (J_if rfl (fun h132 => ?_) (fun h132 => ?_))))))
      ·refine J_sr (JM rfl rfl (JA rfl rfl (JL_nt (J_ret (N_then_ret (N_inlD1 hK129 rfl (rv_tmp rfl) 0 [1] rfl rfl (JD_bnd fun r133 hr134 => JD_one (i := 12) (by kernel_rfl) ?_)))))))
       refine JO_call rfl wn rfl Try.call64 rfl (Ca_of0 fun w hh => c_impl_nearest _ w (fun _ hk => hk.elim) _ _ (hh.ow0 4 rfl) _ hr134) (fun _ => JD_one (i := 13) (by kernel_rfl) ?_)
       refine JO_inline h1_30 [2, 3, 4] [0] rfl rfl rfl rfl wn rfl Try.call63 rfl Try.func63 rfl Try.ntmps63 rfl rfl (fun C136 K_ hK135 => J_sr (JA rfl rfl (JL_nt (J_seq (J_sr (JM rfl rfl (JL_q wn rfl (ex_eql rfl rfl) (JM rfl rfl (JL_cond (fun h137 => ?_) (fun h137 => ?_))))))))))
       ·refine JL_q (wants_some rfl rfl rfl h137) rfl (ex_move rfl) (JL_q (wants_some rfl rfl rfl h137) rfl (ex_len_ow 6 Try.underlying29 rfl rfl) (JL_q (wants_some rfl rfl rfl h137) rfl (ex_eql rfl rfl) (JL_q wn rfl (ex_pick_true rfl h137 rfl) (JL_nt (J_if_true rfl h132 (J_sr (JM rfl rfl (JA rfl rfl (JL_nt (J_ret (N_then_ret (N_inlD1 hK135 rfl (rv_tmp rfl) 0 [2] rfl rfl (JD_take (i := 14) hp28 rfl (by kernel_rfl) (by kernel_rfl) (by kernel_rfl) wn rfl (ex_nilCheck rfl) ?_)))))))))))))
        refine JD_take (i := 15) hp28 rfl (by kernel_rfl) (by kernel_rfl) (by kernel_rfl) wn rfl (ex_fieldAddr fi_95_3 rfl rfl) ?_
        refine JD_one (i := 16) (by kernel_rfl) ?_
        refine JO_sk rfl wn (sk_store_bx' 4 ti_29 rfl rfl (fun w hh => (hh.cv_ow 6 rfl)) rfl rfl rfl rfl) (sub_bx 0 rfl) (JD_done (by kernel_rfl) ?_)
        exact N_meet' v7 ⟨rfl, rfl, trivial⟩ [8, 3, 5, 6, 4, 2, 7] rfl rfl
       ·refine JL_passed rfl rfl rfl h137 (JL_passed rfl rfl rfl h137 (JL_passed rfl rfl rfl h137 (JL_q wn rfl (ex_pick_false rfl h137 rfl) (JL_nt (J_if_false rfl rfl (J_skip (N_then (J_sr (JM rfl rfl (JM rfl rfl (JL_st wn rfl (st_buildSlice (vs := [.int .i64 r133]) ([r133] : List Int) Try.underlying29 ti_2 zi_2 rfl rfl rfl (fun w hh => ⟨(Rd.mk_int _ _ _), trivial⟩)) (fun b138 => JL_bnd fun z139 hz140 => JL_st wn rfl (st_append 7 Try.underlying29 ti_2 zi_2 rfl bi_2 rfl rfl rfl rfl (fun w hh => hh.src_ow 0 rfl) hz140) (fun v141 => JA rfl rfl (JL_nt (J_ret (N_inlD1 hK135 rfl (rv_tmp rfl) 1 [3] rfl rfl (JD_take (i := 14) hp28 rfl (by kernel_rfl) (by kernel_rfl) (by kernel_rfl) wn rfl (ex_nilCheck rfl) ?_)))))))))))))))))
        refine JD_take (i := 15) hp28 rfl (by kernel_rfl) (by kernel_rfl) (by kernel_rfl) wn rfl (ex_fieldAddr fi_95_3 rfl rfl) ?_
        refine JD_one (i := 16) (by kernel_rfl) ?_
        refine JO_sk rfl wn (sk_store_bx' 5 ti_29 rfl rfl (fun w hh => (hh.cv_ow 7 rfl)) rfl rfl rfl rfl) (sub_bx 0 rfl) (JD_done (by kernel_rfl) ?_)
        exact N_meet' v141 ⟨rfl, rfl, trivial⟩ [9, 4, 6, 7, 5, 3, 8] rfl rfl
      ·refine J_skip (N_then (J_sr (JM rfl rfl (JM rfl rfl (JL_st wn rfl (st_buildSlice (vs := [.int .i64 r1.Write]) ([r1.Write] : List Int) Try.underlying29 ti_2 zi_2 rfl rfl rfl (fun w hh => ⟨(Rd.mk_int _ _ _), trivial⟩)) (fun b142 => JL_bnd fun z143 hz144 => JL_st wn rfl (st_append 6 Try.underlying29 ti_2 zi_2 rfl bi_2 rfl rfl rfl rfl (fun w hh => hh.src_ow 0 rfl) hz144) (fun v145 => JA rfl rfl (JL_nt (J_ret (N_inlD1 hK129 rfl (rv_tmp rfl) 1 [2] rfl rfl (JD_bnd fun r146 hr147 => JD_one (i := 12) (by kernel_rfl) ?_)))))))))))
       refine JO_call rfl wn rfl Try.call64 rfl (Ca_of0 fun w hh => c_impl_nearest _ w (fun _ hk => hk.elim) _ _ (hh.ow0 5 rfl) _ hr147) (fun _ => JD_one (i := 13) (by kernel_rfl) ?_)
       refine JO_inline h1_30 [2, 3, 4] [0] rfl rfl rfl rfl wn rfl Try.call63 rfl Try.func63 rfl Try.ntmps63 rfl rfl (fun C149 K_ hK148 => J_sr (JA rfl rfl (JL_nt (J_seq (J_sr (JM rfl rfl (JL_q wn rfl (ex_eql rfl rfl) (JM rfl rfl (JL_cond (fun h150 => ?_) (fun h150 => ?_))))))))))
       ·refine JL_q (wants_some rfl rfl rfl h150) rfl (ex_move rfl) (JL_q (wants_some rfl rfl rfl h150) rfl (ex_len_ow 7 Try.underlying29 rfl rfl) (JL_q (wants_some rfl rfl rfl h150) rfl (ex_eql rfl rfl) (JL_q wn rfl (ex_pick_true rfl h150 rfl) (JL_nt (J_if rfl (fun h151 => ?_) (fun h151 => ?_))))))
        ·refine J_sr (JM rfl rfl (JA rfl rfl (JL_nt (J_ret (N_then_ret (N_inlD1 hK148 rfl (rv_tmp rfl) 0 [3] rfl rfl (JD_take (i := 14) hp28 rfl (by kernel_rfl) (by kernel_rfl) (by kernel_rfl) wn rfl (ex_nilCheck rfl) ?_)))))))
         refine JD_take (i := 15) hp28 rfl (by kernel_rfl) (by kernel_rfl) (by kernel_rfl) wn rfl (ex_fieldAddr fi_95_3 rfl rfl) ?_
         refine JD_one (i := 16) (by kernel_rfl) ?_
         refine JO_sk rfl wn (sk_store_bx' 5 ti_29 rfl rfl (fun w hh => (hh.cv_ow 7 rfl)) rfl rfl rfl rfl) (sub_bx 0 rfl) (JD_done (by kernel_rfl) ?_)
         exact N_meet' v145 ⟨rfl, rfl, trivial⟩ [9, 4, 6, 7, 5, 3, 8] rfl rfl
        ·refine J_skip (N_then (J_sr (JM rfl rfl (JM rfl rfl (JL_st wn rfl (st_buildSlice (vs := [.int .i64 r146]) ([r146] : List Int) Try.underlying29 ti_2 zi_2 rfl rfl rfl (fun w hh => ⟨(Rd.mk_int _ _ _), trivial⟩)) (fun b152 => JL_bnd fun z153 hz154 => JL_st wn rfl (st_append 8 Try.underlying29 ti_2 zi_2 rfl bi_2 rfl rfl rfl rfl (fun w hh => hh.src_ow 0 rfl) hz154) (fun v155 => JA rfl rfl (JL_nt (J_ret (N_inlD1 hK148 rfl (rv_tmp rfl) 1 [4] rfl rfl (JD_take (i := 14) hp28 rfl (by kernel_rfl) (by kernel_rfl) (by kernel_rfl) wn rfl (ex_nilCheck rfl) ?_)))))))))))
         refine JD_take (i := 15) hp28 rfl (by kernel_rfl) (by kernel_rfl) (by kernel_rfl) wn rfl (ex_fieldAddr fi_95_3 rfl rfl) ?_
         refine JD_one (i := 16) (by kernel_rfl) ?_
         refine JO_sk rfl wn (sk_store_bx' 6 ti_29 rfl rfl (fun w hh => (hh.cv_ow 8 rfl)) rfl rfl rfl rfl) (sub_bx 0 rfl) (JD_done (by kernel_rfl) ?_)
         exact N_meet' v155 ⟨rfl, rfl, trivial⟩ [10, 5, 7, 8, 6, 4, 9] rfl rfl
       ·refine JL_passed rfl rfl rfl h150 (JL_passed rfl rfl rfl h150 (JL_passed rfl rfl rfl h150 (JL_q wn rfl (ex_pick_false rfl h150 rfl) (JL_nt (J_if_false rfl rfl (J_skip (N_then (J_sr (JM rfl rfl (JM rfl rfl (JL_st wn rfl (st_buildSlice (vs := [.int .i64 r146]) ([r146] : List Int) Try.underlying29 ti_2 zi_2 rfl rfl rfl (fun w hh => ⟨(Rd.mk_int _ _ _), trivial⟩)) (fun b156 => JL_bnd fun z157 hz158 => JL_st wn rfl (st_append 8 Try.underlying29 ti_2 zi_2 rfl bi_2 rfl rfl rfl rfl (fun w hh => hh.src_ow 0 rfl) hz158) (fun v159 => JA rfl rfl (JL_nt (J_ret (N_inlD1 hK148 rfl (rv_tmp rfl) 1 [4] rfl rfl (JD_take (i := 14) hp28 rfl (by kernel_rfl) (by kernel_rfl) (by kernel_rfl) wn rfl (ex_nilCheck rfl) ?_)))))))))))))))))
        refine JD_take (i := 15) hp28 rfl (by kernel_rfl) (by kernel_rfl) (by kernel_rfl) wn rfl (ex_fieldAddr fi_95_3 rfl rfl) ?_
        refine JD_one (i := 16) (by kernel_rfl) ?_
        refine JO_sk rfl wn (sk_store_bx' 6 ti_29 rfl rfl (fun w hh => (hh.cv_ow 8 rfl)) rfl rfl rfl rfl) (sub_bx 0 rfl) (JD_done (by kernel_rfl) ?_)
        exact N_meet' v159 ⟨rfl, rfl, trivial⟩ [10, 5, 7, 8, 6, 4, 9] rfl rfl
     ·refine JL_passed rfl rfl rfl h131 (JL_passed rfl rfl rfl h131 (JL_passed rfl rfl rfl h131 (JL_q wn rfl (ex_pick_false rfl h131 rfl) (JL_nt (J_if_false rfl rfl (J_skip (N_then (J_sr (JM rfl rfl (JM rfl rfl (JL_st wn rfl (st_buildSlice (vs := [.int .i64 r1.Write]) ([r1.Write] : List Int) Try.underlying29 ti_2 zi_2 rfl rfl rfl (fun w hh => ⟨(Rd.mk_int _ _ _), trivial⟩)) (fun b160 => JL_bnd fun z161 hz162 => JL_st wn rfl (st_append 6 Try.underlying29 ti_2 zi_2 rfl bi_2 rfl rfl rfl rfl (fun w hh => hh.src_ow 0 rfl) hz162) (fun v163 => JA rfl rfl (JL_nt (J_ret (N_inlD1 hK129 rfl (rv_tmp rfl) 1 [2] rfl rfl (JD_bnd fun r164 hr165 => JD_one (i := 12) (by kernel_rfl) ?_)))))))))))))))))
      refine JO_call rfl wn rfl Try.call64 rfl (Ca_of0 fun w hh => c_impl_nearest _ w (fun _ hk => hk.elim) _ _ (hh.ow0 5 rfl) _ hr165) (fun _ => JD_one (i := 13) (by kernel_rfl) ?_)
      refine JO_inline h1_30 [2, 3, 4] [0] rfl rfl rfl rfl wn rfl Try.call63 rfl Try.func63 rfl Try.ntmps63 rfl rfl (fun C167 K_ hK166 => J_sr (JA rfl rfl (JL_nt (J_seq (J_sr (JM rfl rfl (JL_q wn rfl (ex_eql rfl rfl) (JM rfl rfl (JL_cond (fun h168 => ?_) (fun h168 => ?_))))))))))
      ·refine JL_q (wants_some rfl rfl rfl h168) rfl (ex_move rfl) (JL_q (wants_some rfl rfl rfl h168) rfl (ex_len_ow 7 Try.underlying29 rfl rfl) (JL_q (wants_some rfl rfl rfl h168) rfl (ex_eql rfl rfl) (JL_q wn rfl (ex_pick_true rfl h168 rfl) (JL_nt (J_if rfl (fun h169 => ?_) (fun h169 => ?_))))))
       ·refine J_sr (JM rfl rfl (JA rfl rfl (JL_nt (J_ret (N_then_ret (N_inlD1 hK166 rfl (rv_tmp rfl) 0 [3] rfl rfl (JD_take (i := 14) hp28 rfl (by kernel_rfl) (by kernel_rfl) (by kernel_rfl) wn rfl (ex_nilCheck rfl) ?_)))))))
        refine JD_take (i := 15) hp28 rfl (by kernel_rfl) (by kernel_rfl) (by kernel_rfl) wn rfl (ex_fieldAddr fi_95_3 rfl rfl) ?_
        refine JD_one (i := 16) (by kernel_rfl) ?_
        refine JO_sk rfl wn (sk_store_bx' 5 ti_29 rfl rfl (fun w hh => (hh.cv_ow 7 rfl)) rfl rfl rfl rfl) (sub_bx 0 rfl) (JD_done (by kernel_rfl) ?_)
        exact N_meet' v163 ⟨rfl, rfl, trivial⟩ [9, 4, 6, 7, 5, 3, 8] rfl rfl
       ·refine J_skip (N_then (J_sr (JM rfl rfl (JM rfl rfl (JL_st wn rfl (st_buildSlice (vs := [.int .i64 r164]) ([r164] : List Int) Try.underlying29 ti_2 zi_2 rfl rfl rfl (fun w hh => ⟨(Rd.mk_int _ _ _), trivial⟩)) (fun b170 => JL_bnd fun z171 hz172 => JL_st wn rfl (st_append 8 Try.underlying29 ti_2 zi_2 rfl bi_2 rfl rfl rfl rfl (fun w hh => hh.src_ow 0 rfl) hz172) (fun v173 => JA rfl rfl (JL_nt (J_ret (N_inlD1 hK166 rfl (rv_tmp rfl) 1 [4] rfl rfl (JD_take (i := 14) hp28 rfl (by kernel_rfl) (by kernel_rfl) (by kernel_rfl) wn rfl (ex_nilCheck rfl) ?_)))))))))))
        refine JD_take (i := 15) hp28 rfl (by kernel_rfl) (by kernel_rfl) (by kernel_rfl) wn rfl (ex_fieldAddr fi_95_3 rfl rfl) ?_
        refine JD_one (i := 16) (by kernel_rfl) ?_
        refine JO_sk rfl wn (sk_store_bx' 6 ti_29 rfl rfl (fun w hh => (hh.cv_ow 8 rfl)) rfl rfl rfl rfl) (sub_bx 0 rfl) (JD_done (by kernel_rfl) ?_)
        exact N_meet' v173 ⟨rfl, rfl, trivial⟩ [10, 5, 7, 8, 6, 4, 9] rfl rfl
      ·refine JL_passed rfl rfl rfl h168 (JL_passed rfl rfl rfl h168 (JL_passed rfl rfl rfl h168 (JL_q wn rfl (ex_pick_false rfl h168 rfl) (JL_nt (J_if_false rfl rfl (J_skip (N_then (J_sr (JM rfl rfl (JM rfl rfl (JL_st wn rfl (st_buildSlice (vs := [.int .i64 r164]) ([r164] : List Int) Try.underlying29 ti_2 zi_2 rfl rfl rfl (fun w hh => ⟨(Rd.mk_int _ _ _), trivial⟩)) (fun b174 => JL_bnd fun z175 hz176 => JL_st wn rfl (st_append 8 Try.underlying29 ti_2 zi_2 rfl bi_2 rfl rfl rfl rfl (fun w hh => hh.src_ow 0 rfl) hz176) (fun v177 => JA rfl rfl (JL_nt (J_ret (N_inlD1 hK166 rfl (rv_tmp rfl) 1 [4] rfl rfl (JD_take (i := 14) hp28 rfl (by kernel_rfl) (by kernel_rfl) (by kernel_rfl) wn rfl (ex_nilCheck rfl) ?_)))))))))))))))))
       refine JD_take (i := 15) hp28 rfl (by kernel_rfl) (by kernel_rfl) (by kernel_rfl) wn rfl (ex_fieldAddr fi_95_3 rfl rfl) ?_
       refine JD_one (i := 16) (by kernel_rfl) ?_
       refine JO_sk rfl wn (sk_store_bx' 6 ti_29 rfl rfl (fun w hh => (hh.cv_ow 8 rfl)) rfl rfl rfl rfl) (sub_bx 0 rfl) (JD_done (by kernel_rfl) ?_)
       exact N_meet' v177 ⟨rfl, rfl, trivial⟩ [10, 5, 7, 8, 6, 4, 9] rfl rfl
   ·refine N_then (J_region (JM rfl rfl (JM rfl rfl (JL_q wn rfl (ex_nilCheck rfl) (JL_q wn rfl (ex_fieldAddr fi_95_2 rfl rfl) (JL_q wn rfl (ex_load_bx 4 ti_29 rfl rfl rfl) (JL_inline wn rfl Try.call62 rfl Try.func62 rfl Try.ntmps62 rfl rfl (fun K_ hK178 => J_sr (JA rfl rfl (JL_nt (J_sr (JM rfl rfl (JM rfl rfl (JL_q wn rfl (ex_len_ow 2 Try.underlying29 rfl rfl) (JL_q wn rfl (ex_sub rfl rfl) (JL_q wn rfl (ex_max rfl rfl) (JL_bnd fun z179 hz180 => JL_st wn rfl (st_slice_own 2 Try.underlying29 ti_2 rfl rfl rfl hz180) (fun v181 => JA rfl rfl (JL_nt (J_ret (N_inl1 hK178 rfl (rv_tmp rfl) (JL_q wn rfl (ex_nilCheck rfl) ?_))))))))))))))))))))))
    exact JL_q wn rfl (ex_fieldAddr fi_95_2 rfl rfl) (JL_sk wn (sk_store_bx' 4 ti_29 rfl rfl (fun w hh => (hh.cv_ow 2 rfl)) rfl rfl rfl rfl) (JL_nil (N_meet' (v181, g27) ⟨rfl, rfl, trivial⟩ [0, 1, 2, 3, 4, 5, 6] rfl rfl)))
 ·obtain ⟨g9_0, g9_1⟩ := g9
  refine N_then (J_sr (JM rfl rfl (JL_q wn rfl (ex_fieldAddr fi_88_2 rfl rfl) (JL_q wn rfl (ex_load_bx 5 ti_2 rfl rfl rfl) (JL_q wn rfl (ex_nilCheck rfl) (JL_q wn rfl (ex_fieldAddr fi_95_1 rfl rfl) (JL_sk wn (sk_store_bx' 4 ti_2 rfl rfl (fun w hh => cv_int) rfl rfl rfl rfl) (JL_nt (J_sr (JM rfl rfl (JL_q wn rfl (ex_nilCheck rfl) (JL_q wn rfl (ex_fieldAddr fi_95_2 rfl rfl) (JL_q wn rfl (ex_load_bx 4 ti_29 rfl rfl rfl) (JL_q wn rfl (ex_len_ow 2 Try.underlying29 rfl rfl) (JL_q wn rfl (ex_leq rfl rfl) (JM rfl rfl (JL_cond (fun h182 => ?_) (fun h182 => ?_))))))))))))))))))
  ·exact JL_q (wants_some rfl rfl rfl h182) rfl (ex_move rfl) (JL_q (wants_some rfl rfl rfl h182) rfl (ex_nilCheck rfl) (JL_q (wants_some rfl rfl rfl h182) rfl (ex_fieldAddr fi_95_3 rfl rfl) (JL_q (wants_some rfl rfl rfl h182) rfl (ex_load_bx 4 ti_29 rfl rfl rfl) (JL_q (wants_some rfl rfl rfl h182) rfl (ex_len_ow 3 Try.underlying29 rfl rfl) (JL_q (wants_some rfl rfl rfl h182) rfl (ex_leq rfl rfl) (JL_q wn rfl (ex_pick_true rfl h182 rfl) (JA rfl rfl (JL_nt (J_ret (N_ret1 rfl (rv_tmp rfl) (fun w hh => ⟨(g9_0, g9_1), rfl, hh.sel [4, 2, 3, 6, 0] rfl⟩)))))))))))
  ·exact JL_passed rfl rfl rfl h182 (JL_passed rfl rfl rfl h182 (JL_passed rfl rfl rfl h182 (JL_passed rfl rfl rfl h182 (JL_passed rfl rfl rfl h182 (JL_passed rfl rfl rfl h182 (JL_q wn rfl (ex_pick_false rfl h182 rfl) (JA rfl rfl (JL_nt (J_ret (N_ret1 rfl (rv_tmp rfl) (fun w hh => ⟨(g9_0, g9_1), rfl, hh.sel [4, 2, 3, 6, 0] rfl⟩)))))))))))
set_option maxHeartbeats 40000000 in
theorem c_impl_runner_config (A : Nat → Prop) (w : World) (hA : ∀ k, A k → k < w.heap.size) (v0_ : Value) (p0 : Grunner) (hp0 : RdA A w.heap.size w v0_ p0) (r : GConfig) (hr : F_impl_runner_config p0 = some r) :
  Con Try.prog 28 [v0_] A w (fun x_ : Value × Value => .agg #[.int .i64 r.State, x_.1, x_.2]) (fun x_ => [.ow 2 x_.1 r.Left, .ow 2 x_.2 r.Right]) := by
 refine Con_of (v := fun (r : GConfig) (x_ : Value × Value) => .agg #[.int .i64 r.State, x_.1, x_.2]) (fs := fun r x_ => [.ow 2 x_.1 r.Left, .ow 2 x_.2 r.Right]) Try.func28 rfl Try.ntmps28 rfl ((SH.start hA).start_pa' rfl hp0) rfl ?_ hr
 unfold F_impl_runner_config
 refine J_sr (JL_st wn rfl (st_alloc zi_35 rfl) (fun b1 => JL_nt (J_seq (J_draw [0] (by kernel_rfl) ?_))))
 refine JP_take (i := 0) [1] [0] rfl (by kernel_rfl) (by kernel_rfl) (by kernel_rfl) rfl rfl wn rfl (ex_move rfl) ?_
 refine JP_take (i := 1) [1] [0] rfl (by kernel_rfl) (by kernel_rfl) (by kernel_rfl) rfl rfl wn rfl (ex_nilCheck_pa 0 rfl rfl) ?_
 refine JP_sq (i := 2) [0] rfl (by kernel_rfl) (by kernel_rfl) (by kernel_rfl) rfl wn rfl (sq_field_pa 1 (Grunner.at_state _) fi_95_1 rfl rfl rfl) (fun q2 => ?_)
 refine JP_sq (i := 3) [1] rfl (by kernel_rfl) (by kernel_rfl) (by kernel_rfl) rfl wn rfl (sq_load_pa_o 0 (opens_int _) ti_2 rfl rfl) (fun _ => ?_)
 refine JP_take (i := 4) [0, 2] [1] rfl (by kernel_rfl) (by kernel_rfl) (by kernel_rfl) rfl rfl wn rfl (ex_move rfl) ?_
 refine JP_take (i := 5) [0, 2] [1] rfl (by kernel_rfl) (by kernel_rfl) (by kernel_rfl) rfl rfl wn rfl (ex_nilCheck_pa 1 rfl rfl) ?_
 refine JP_sq (i := 6) [1] rfl (by kernel_rfl) (by kernel_rfl) (by kernel_rfl) rfl wn rfl (sq_field_pa 2 (Grunner.at_left _) fi_95_2 rfl rfl rfl) (fun q4 => ?_)
 refine JP_sq (i := 7) [2] rfl (by kernel_rfl) (by kernel_rfl) (by kernel_rfl) rfl wn rfl (sq_load_pa_o 0 (opens_sl _) ti_29 rfl rfl) (fun v5 => ?_)
 refine JP_take (i := 9) [0, 1, 2, 4] [3] rfl (by kernel_rfl) (by kernel_rfl) (by kernel_rfl) rfl rfl wn rfl (ex_move rfl) ?_
 refine JP_take (i := 10) [0, 1, 2, 4] [3] rfl (by kernel_rfl) (by kernel_rfl) (by kernel_rfl) rfl rfl wn rfl (ex_nilCheck_pa 3 rfl rfl) ?_
 refine JP_sq (i := 11) [3] rfl (by kernel_rfl) (by kernel_rfl) (by kernel_rfl) rfl wn rfl (sq_field_pa 4 (Grunner.at_right _) fi_95_3 rfl rfl rfl) (fun q6 => ?_)
 refine JP_sq (i := 12) [4] rfl (by kernel_rfl) (by kernel_rfl) (by kernel_rfl) rfl wn rfl (sq_load_pa_o 0 (opens_sl _) ti_29 rfl rfl) (fun v7 => ?_)
 refine JP_go [0, 1, 2, 3, 4, 6] [5] rfl rfl rfl (fun w9 h1_10 hp8 => JD_bnd fun r11 hr12 => JD_one (i := 8) (by kernel_rfl) ?_)
 refine JO_call rfl wn rfl Try.call45 rfl (Ca_self (fun _ => rfl) fun w hh => c_impl_reversed _ w (fun _ hk => hk.elim) _ _ (hh.rd0 2 rfl) _ hr12) (fun x13 => JD_bnd fun r14 hr15 => JD_one (i := 13) (by kernel_rfl) ?_)
 refine JO_call rfl wn rfl Try.call45 rfl (Ca_self (fun _ => rfl) fun w hh => c_impl_reversed _ w (fun _ hk => hk.elim) _ _ (hh.rd0 1 rfl) _ hr15) (fun x16 => JD_one (i := 14) (by kernel_rfl) ?_)
 refine JO_q rfl wn rfl (ex_build si_35 rfl (.cons fi_35_0 rfl rfl (.cons fi_35_1 rfl rfl (.cons fi_35_2 rfl rfl .nil))) (fun w hh => ⟨cv_int, (hh.cv_ow 1 rfl), (hh.cv_ow 0 rfl), trivial⟩)) (JD_one (i := 15) (by kernel_rfl) ?_)
 refine JO_sk rfl wn (sk_store_bx' 7 ti_35 rfl rfl (fun w hh => (cv_aggs ⟨cv_int, (hh.cv_ow 1 rfl), (hh.cv_ow 0 rfl), trivial⟩)) rfl rfl rfl rfl) (sub_bx 0 rfl) (JD_done (by kernel_rfl) ?_)
 exact N_then (J_ret (N_ret1 rfl (rv_cell 7 rfl rfl ti_35 rfl) (fun w hh => ⟨(x13, x16), rfl, hh.sel [1, 0] rfl⟩)))
set_option maxHeartbeats 40000000 in
theorem c_impl_StepMachine (A : Nat → Prop) (w : World) (hA : ∀ k, A k → k < w.heap.size) (v0_ : Value) (p0 : GMachine) (hp0 : Rd A w v0_ p0) (v1_ : Value) (p1 : GConfig) (hp1 : Rd A w v1_ p1) (r : GConfig × Int) (hr : F_impl_StepMachine p0 p1 = some r) :
  Con Try.prog 10 [v0_, v1_] A w (fun x_ : Value × Value => .tuple #[.agg #[.int .i64 r.1.State, x_.1, x_.2], .int .i64 r.2]) (fun x_ => [.ow 2 x_.1 r.1.Left, .ow 2 x_.2 r.1.Right]) := by
 obtain ⟨v0_0, rfl, hp0_0⟩ := GMachine.open hp0
 obtain ⟨v1_0, v1_1, rfl, hp1_0, hp1_1⟩ := GConfig.open hp1
 refine Con_of (v := fun (r : GConfig × Int) (x_ : Value × Value) => .tuple #[.agg #[.int .i64 r.1.State, x_.1, x_.2], .int .i64 r.2]) (fs := fun r x_ => [.ow 2 x_.1 r.1.Left, .ow 2 x_.2 r.1.Right]) Try.func10 rfl Try.ntmps10 rfl ((((SH.start hA).start_rd rfl hp0_0).start_rd rfl hp1_0).start_rd rfl hp1_1) rfl ?_ hr
 unfold F_impl_StepMachine
 refine J_sr (JL_st wn rfl (st_box' rfl (fun w hh => (cv_aggs ⟨cv_int, cv_int, (hh.cv 2 rfl), trivial⟩))) (fun b1 => JL_st wn rfl (st_box' rfl (fun w hh => (cv_aggs ⟨cv_int, (hh.cv 2 rfl), (hh.cv 1 rfl), trivial⟩))) (fun b2 => JL_st wn rfl (st_alloc zi_35 rfl) (fun b3 => JA rfl rfl (JL_nt (J_seq (J_sr (JL_q wn rfl (ex_load_bx_agg 2 ti_26 rfl rfl rfl rfl) (JL_q wn rfl (ex_load_bx_agg 1 ti_35 rfl rfl rfl rfl) (JL_bnd fun r4 hr5 => JL_call wn rfl Try.call24 rfl (Ca_of0 fun w hh => c_impl_ValidConfig _ w (fun _ hk => hk.elim) _ _ (GMachine.rdmk (Rd.mk_int _ _ _) (Rd.mk_int _ _ _) (hh.rd0 5 rfl)) _ _ (GConfig.rdmk (Rd.mk_int _ _ _) (hh.rd0 4 rfl) (hh.rd0 3 rfl)) _ hr5) (fun _ => JL_q wn rfl (ex_not rfl) (JL_nt (J_if rfl (fun h6 => ?_) (fun h6 => ?_))))))))))))))
 ·exact J_sr (JL_q wn rfl (ex_build si_35 rfl .nil (fun w hh => trivial)) (JL_sk wn (sk_store_bx' 0 ti_35 rfl rfl (fun w hh => (cv_aggs ⟨cv_int, cv_slice, cv_slice, trivial⟩)) rfl rfl rfl rfl) (JA rfl rfl (JL_nt (J_ret (N_then_ret (N_ctx (fun w hh => SH.ow_nil (α := Int) 2 hh) (N_ctx (fun w hh => SH.ow_nil (α := Int) 2 hh) (N_ret2 rfl (rv_cell 2 rfl rfl ti_35 rfl) (rv_tmp rfl) (fun w hh => ⟨((.slice none 0 0 : Value), (.slice none 0 0 : Value)), rfl, hh.sel [1, 0] rfl⟩))))))))))
 ·refine J_skip (N_then (J_sr (JL_q wn rfl (ex_load_bx_agg 2 ti_26 rfl rfl rfl rfl) (JL_q wn rfl (ex_load_bx_agg 1 ti_35 rfl rfl rfl rfl) (JL_bnd fun r7 hr8 => JL_call wn rfl Try.call25 rfl (Ca_of (fun _ => rfl) fun w hh => c_impl_runnerOf _ w hh.av' _ _ (GMachine.rdmk (Rd.mk_int _ _ _) (Rd.mk_int _ _ _) (hh.rd 5 rfl)) _ _ (GConfig.rdmk (Rd.mk_int _ _ _) (hh.rd 4 rfl) (hh.rd 3 rfl)) _ hr8) (fun x9 => ?_))))))
  obtain ⟨x9_0, x9_1, x9_2, x9_3⟩ := x9
  refine JA rfl rfl (JL_nt (J_seq (J_block (J_sr (JM rfl rfl (JL_bnd fun r10 hr11 => JL_call wn rfl Try.call26 rfl (Ca_of0 fun w hh => c_impl_runner_halts _ w (fun _ hk => hk.elim) _ _ (hh.bx_pa 3 rfl (Grunner.rdmk (Rd.mk_int _ _ _) (Rd.mk_int _ _ _) (hh.rd0 0 rfl) (Rd.mk_int _ _ _) (hh.ow0 1 rfl) (hh.ow0 2 rfl)) rfl) _ hr11) (fun _ => JA rfl rfl (JL_nt (J_if rfl (fun h12 => ?_) (fun h12 => ?_))))))))))
  ·exact J_sr (JL_q wn rfl (ex_build si_35 rfl .nil (fun w hh => trivial)) (JL_sk wn (sk_store_bx' 4 ti_35 rfl rfl (fun w hh => (cv_aggs ⟨cv_int, cv_slice, cv_slice, trivial⟩)) rfl rfl rfl rfl) (JA rfl rfl (JL_nt (J_ret (N_block_ret (N_then_ret (N_ctx (fun w hh => SH.ow_nil (α := Int) 2 hh) (N_ctx (fun w hh => SH.ow_nil (α := Int) 2 hh) (N_ret2 rfl (rv_cell 6 rfl rfl ti_35 rfl) (rv_tmp rfl) (fun w hh => ⟨((.slice none 0 0 : Value), (.slice none 0 0 : Value)), rfl, hh.sel [1, 0] rfl⟩)))))))))))
  ·refine J_sr (JM rfl rfl (JL_bnd fun r13 hr14 => JL_callT wn rfl Try.call27 rfl (CaT_of [3, 1, 2] [0, 4, 5, 6, 7, 8, 9] rfl rfl (fun _ => rfl) fun w hh => c_impl_runner_step w x9_3 (⟨r7.1, r7.2.1, r7.2.2.1, r7.2.2.2.1, r7.2.2.2.2.1, r7.2.2.2.2.2⟩ : Grunner) x9_0 x9_1 x9_2 _ rfl (hh.handed [3, 1, 2] rfl rfl rfl rfl) (hh.apart [3, 1, 2] rfl (hh.rd 0 rfl)) _ hr14) (fun x15 => ?_)))
   obtain ⟨x15_0, x15_1⟩ := x15
   refine JL_q wn rfl (ex_not rfl) (JA rfl rfl (JL_nt (J_if rfl (fun h16 => ?_) (fun h16 => ?_))))
   ·exact J_sr (JL_q wn rfl (ex_build si_35 rfl .nil (fun w hh => trivial)) (JL_sk wn (sk_store_bx' 4 ti_35 rfl rfl (fun w hh => (cv_aggs ⟨cv_int, cv_slice, cv_slice, trivial⟩)) rfl rfl rfl rfl) (JA rfl rfl (JL_nt (J_ret (N_block_ret (N_then_ret (N_ctx (fun w hh => SH.ow_nil (α := Int) 2 hh) (N_ctx (fun w hh => SH.ow_nil (α := Int) 2 hh) (N_ret2 rfl (rv_cell 6 rfl rfl ti_35 rfl) (rv_tmp rfl) (fun w hh => ⟨((.slice none 0 0 : Value), (.slice none 0 0 : Value)), rfl, hh.sel [1, 0] rfl⟩)))))))))))
   ·refine J_skip (N_block (N_then (J_sr (JM rfl rfl (JL_bnd fun r17 hr18 => JL_call wn rfl Try.call28 rfl (Ca_self (fun _ => rfl) fun w hh => c_impl_runner_config _ w (fun _ hk => hk.elim) _ _ (hh.bx_pa 0 rfl (Grunner.rdmk (Rd.mk_int _ _ _) (Rd.mk_int _ _ _) (hh.rd0 3 rfl) (Rd.mk_int _ _ _) (hh.ow0 1 rfl) (hh.ow0 2 rfl)) rfl) _ hr18) (fun x19 => ?_))))))
    obtain ⟨x19_0, x19_1⟩ := x19
    exact JL_sk wn (sk_store_bx' 6 ti_35 rfl rfl (fun w hh => (cv_aggs ⟨cv_int, (hh.cv_ow 0 rfl), (hh.cv_ow 1 rfl), trivial⟩)) rfl rfl rfl rfl) (JA rfl rfl (JL_nt (J_ret (N_ret2 rfl (rv_cell 6 rfl rfl ti_35 rfl) (rv_tmp rfl) (fun w hh => ⟨(x19_0, x19_1), rfl, hh.sel [0, 1] rfl⟩)))))
set_option maxHeartbeats 40000000 in
theorem c_laws_r8Same (A : Nat → Prop) (w : World) (hA : ∀ k, A k → k < w.heap.size) (v0_ : Value) (p0 : (List Int)) (hp0 : Rd A w v0_ p0) (v1_ : Value) (p1 : (List Int)) (hp1 : Rd A w v1_ p1) (r : Bool) (hr : F_laws_r8Same p0 p1 = some r) :
  Con Try.prog 29 [v0_, v1_] A w (fun x_ : Unit => .bool r) (fun x_ => []) := by
 refine Con_of (v := fun (r : Bool) (x_ : Unit) => .bool r) (fs := fun r x_ => []) Try.func29 rfl Try.ntmps29 rfl (((SH.start hA).start_rd rfl hp0).start_rd rfl hp1) rfl ?_ hr
 unfold F_laws_r8Same
 refine J_sr (JA rfl rfl (JL_nt (J_seq (J_sr (JM rfl rfl (JL_q wn rfl (ex_len_rd 1 Try.underlying29 rfl rfl) (JM rfl rfl (JL_q wn rfl (ex_len_rd 0 Try.underlying29 rfl rfl) (JL_q wn rfl (ex_neq rfl rfl) (JL_nt (J_if rfl (fun h1 => ?_) (fun h1 => ?_))))))))))))
 ·exact J_sr (JA rfl rfl (JL_nt (J_ret (N_then_ret (N_ret1 rfl (rv_tmp rfl) (fun w hh => ⟨(), rfl, hh.sel [] rfl⟩))))))
 ·refine J_skip (N_then (J_seq (J_sr (JA rfl rfl (JL_nt (J_loop' (S := Int) (G := Unit) (F_laws_r8Same_L1 p0 p1) (fun s2 _ => [(0, v0_), (1, v1_), (5, .int .i64 s2)]) (fun s2 _ => [.rd v0_ p0, .rd v1_ p1]) 0 () ⟨rfl, rfl, rfl, trivial⟩ [1, 0] rfl rfl (fun s2 g3 => ?_) (fun s2 g3 => ?_)))))))
  ·unfold F_laws_r8Same_L1
   refine J_seq (J_sr (JM rfl rfl (JM rfl rfl (JL_q wn rfl (ex_len_rd 0 Try.underlying29 rfl rfl) (JL_q wn rfl (ex_lss rfl rfl) (JL_nt (J_if rfl (fun h4 => ?_) (fun h4 => ?_))))))))
   ·refine J_skip (N_then (J_seq (J_block (J_seq (J_draw [] (by kernel_rfl) ?_)))))
    refine JP_take (i := 0) [0, 1] [] rfl (by kernel_rfl) (by kernel_rfl) (by kernel_rfl) rfl rfl wn rfl (ex_move rfl) ?_
    refine JP_take (i := 1) [0, 1] [] rfl (by kernel_rfl) (by kernel_rfl) (by kernel_rfl) rfl rfl wn rfl (ex_move rfl) ?_
    refine JP_bnd fun y5 hy6 => JP_sq (i := 2) [] rfl (by kernel_rfl) (by kernel_rfl) (by kernel_rfl) rfl wn rfl (sq_index 0 Try.underlying29 ti_2 rfl rfl rfl hy6) (fun q7 => ?_)
    refine JP_sq (i := 3) [] rfl (by kernel_rfl) (by kernel_rfl) (by kernel_rfl) rfl wn rfl (sq_load_pt_o 0 (opens_int _) ti_2 rfl rfl) (fun _ => ?_)
    refine JP_take (i := 4) [0, 1, 2] [] rfl (by kernel_rfl) (by kernel_rfl) (by kernel_rfl) rfl rfl wn rfl (ex_move rfl) ?_
    refine JP_take (i := 5) [0, 1, 2] [] rfl (by kernel_rfl) (by kernel_rfl) (by kernel_rfl) rfl rfl wn rfl (ex_move rfl) ?_
    refine JP_bnd fun y9 hy10 => JP_sq (i := 6) [] rfl (by kernel_rfl) (by kernel_rfl) (by kernel_rfl) rfl wn rfl (sq_index 2 Try.underlying29 ti_2 rfl rfl rfl hy10) (fun q11 => ?_)
    refine JP_sq (i := 7) [] rfl (by kernel_rfl) (by kernel_rfl) (by kernel_rfl) rfl wn rfl (sq_load_pt_o 0 (opens_int _) ti_2 rfl rfl) (fun _ => ?_)
    refine JP_take (i := 8) [0, 1, 2, 3] [] rfl (by kernel_rfl) (by kernel_rfl) (by kernel_rfl) rfl rfl wn rfl (ex_neq rfl rfl) ?_
    refine JP_go [] [] rfl rfl rfl (fun _ _ _ => JD_done (by kernel_rfl) ?_)
    refine N_then (J_if rfl (fun h13 => ?_) (fun h13 => ?_))
    ·exact J_sr (JA rfl rfl (JL_nt (J_ret (N_block_ret (N_then_ret (N_round_ret (N_then_ret (N_ret1 rfl (rv_tmp rfl) (fun w hh => ⟨(), rfl, hh.sel [] rfl⟩)))))))))
    ·exact J_skip (N_block (N_then (J_region (JM rfl rfl (JL_q wn rfl (ex_add rfl rfl) (JA rfl rfl (JL_nil (N_next' () ⟨rfl, rfl, rfl, trivial⟩ [2, 3] rfl rfl))))))))
   ·exact J_exit (N_then_exit (N_break' () ⟨rfl, rfl, rfl, trivial⟩ [0, 1] rfl rfl))
  ·exact N_then (J_sr (JA rfl rfl (JL_nt (J_ret (N_ret1 rfl (rv_tmp rfl) (fun w hh => ⟨(), rfl, hh.sel [] rfl⟩))))))
set_option maxHeartbeats 40000000 in
theorem c_laws_r8Config (A : Nat → Prop) (w : World) (hA : ∀ k, A k → k < w.heap.size) (v0_ : Value) (p0 : GConfig) (hp0 : Rd A w v0_ p0) (v1_ : Value) (p1 : GConfig) (hp1 : Rd A w v1_ p1) (r : Bool) (hr : F_laws_r8Config p0 p1 = some r) :
  Con Try.prog 11 [v0_, v1_] A w (fun x_ : Unit => .bool r) (fun x_ => []) := by
 obtain ⟨v0_0, v0_1, rfl, hp0_0, hp0_1⟩ := GConfig.open hp0
 obtain ⟨v1_0, v1_1, rfl, hp1_0, hp1_1⟩ := GConfig.open hp1
 refine Con_of (v := fun (r : Bool) (x_ : Unit) => .bool r) (fs := fun r x_ => []) Try.func11 rfl Try.ntmps11 rfl (((((SH.start hA).start_rd rfl hp0_0).start_rd rfl hp0_1).start_rd rfl hp1_0).start_rd rfl hp1_1) rfl ?_ hr
 unfold F_laws_r8Config
 refine J_sr (JL_st wn rfl (st_box' rfl (fun w hh => (cv_aggs ⟨cv_int, (hh.cv 3 rfl), (hh.cv 2 rfl), trivial⟩))) (fun b1 => JL_st wn rfl (st_box' rfl (fun w hh => (cv_aggs ⟨cv_int, (hh.cv 2 rfl), (hh.cv 1 rfl), trivial⟩))) (fun b2 => JA rfl rfl (JL_nt (J_sr (JL_q wn rfl (ex_fieldAddr fi_35_0 rfl rfl) (JL_q wn rfl (ex_load_bx 1 ti_2 rfl rfl rfl) (JL_q wn rfl (ex_fieldAddr fi_35_0 rfl rfl) (JL_q wn rfl (ex_load_bx 0 ti_2 rfl rfl rfl) (JL_q wn rfl (ex_eql rfl rfl) (JM rfl rfl (JL_cond (fun h3 => ?_) (fun h3 => ?_)))))))))))))
 ·refine JL_q (wants_some rfl rfl rfl h3) rfl (ex_fieldAddr fi_35_1 rfl rfl) (JL_q (wants_some rfl rfl rfl h3) rfl (ex_load_bx 1 ti_29 rfl rfl rfl) (JL_q (wants_some rfl rfl rfl h3) rfl (ex_fieldAddr fi_35_1 rfl rfl) (JL_q (wants_some rfl rfl rfl h3) rfl (ex_load_bx 0 ti_29 rfl rfl rfl) (JL_bnd fun r4 hr5 => JL_call (wants_some rfl rfl rfl h3) rfl Try.call29 rfl (Ca_of0 fun w hh => c_laws_r8Same _ w (fun _ hk => hk.elim) _ _ (hh.rd0 5 rfl) _ _ (hh.rd0 3 rfl) _ hr5) (fun _ => JL_q wn rfl (ex_pick_true rfl h3 rfl) (JM rfl rfl (JL_cond (fun h6 => ?_) (fun h6 => ?_))))))))
  ·exact JL_q (wants_some rfl rfl rfl h6) rfl (ex_fieldAddr fi_35_2 rfl rfl) (JL_q (wants_some rfl rfl rfl h6) rfl (ex_load_bx 1 ti_29 rfl rfl rfl) (JL_q (wants_some rfl rfl rfl h6) rfl (ex_fieldAddr fi_35_2 rfl rfl) (JL_q (wants_some rfl rfl rfl h6) rfl (ex_load_bx 0 ti_29 rfl rfl rfl) (JL_bnd fun r7 hr8 => JL_call (wants_some rfl rfl rfl h6) rfl Try.call29 rfl (Ca_of0 fun w hh => c_laws_r8Same _ w (fun _ hk => hk.elim) _ _ (hh.rd0 4 rfl) _ _ (hh.rd0 2 rfl) _ hr8) (fun _ => JL_q wn rfl (ex_pick_true rfl h6 rfl) (JA rfl rfl (JL_nt (J_ret (N_ret1 rfl (rv_tmp rfl) (fun w hh => ⟨(), rfl, hh.sel [] rfl⟩))))))))))
  ·exact JL_passed rfl rfl rfl h6 (JL_passed rfl rfl rfl h6 (JL_passed rfl rfl rfl h6 (JL_passed rfl rfl rfl h6 (JL_passed rfl rfl rfl h6 (JL_q wn rfl (ex_pick_false rfl h6 rfl) (JA rfl rfl (JL_nt (J_ret (N_ret1 rfl (rv_tmp rfl) (fun w hh => ⟨(), rfl, hh.sel [] rfl⟩))))))))))
 ·exact JL_passed rfl rfl rfl h3 (JL_passed rfl rfl rfl h3 (JL_passed rfl rfl rfl h3 (JL_passed rfl rfl rfl h3 (JL_passed rfl rfl rfl h3 (JL_q wn rfl (ex_pick_false rfl h3 rfl) (JM rfl rfl (JL_passed rfl rfl rfl rfl (JL_passed rfl rfl rfl rfl (JL_passed rfl rfl rfl rfl (JL_passed rfl rfl rfl rfl (JL_passed rfl rfl rfl rfl (JL_q wn rfl (ex_pick_false rfl rfl rfl) (JA rfl rfl (JL_nt (J_ret (N_ret1 rfl (rv_tmp rfl) (fun w hh => ⟨(), rfl, hh.sel [] rfl⟩)))))))))))))))))
set_option maxHeartbeats 40000000 in
theorem c_impl_isLetters (A : Nat → Prop) (w : World) (hA : ∀ k, A k → k < w.heap.size) (v0_ : Value) (p0 : (List Int)) (hp0 : Rd A w v0_ p0) (r : Bool) (hr : F_impl_isLetters p0 = some r) :
  Con Try.prog 65 [v0_] A w (fun x_ : Unit => .bool r) (fun x_ => []) := by
 refine Con_of (v := fun (r : Bool) (x_ : Unit) => .bool r) (fs := fun r x_ => []) Try.func65 rfl Try.ntmps65 rfl ((SH.start hA).start_rd rfl hp0) rfl ?_ hr
 unfold F_impl_isLetters
 exact J_sr (JA rfl rfl (JL_nt (J_sr (JM rfl rfl (JL_bnd fun r1 hr2 => JL_call wn rfl Try.call18 rfl (Ca_of0 fun w hh => c_impl_allWithin _ w (fun _ hk => hk.elim) _ _ (hh.rd0 0 rfl) _ _ _ hr2) (fun _ => JA rfl rfl (JL_nt (J_ret (N_ret1 rfl (rv_tmp rfl) (fun w hh => ⟨(), rfl, hh.sel [] rfl⟩))))))))))
set_option maxHeartbeats 40000000 in
theorem c_impl_IsWord (A : Nat → Prop) (w : World) (hA : ∀ k, A k → k < w.heap.size) (v0_ : Value) (p0 : (List Int)) (hp0 : Rd A w v0_ p0) (r : Bool) (hr : F_impl_IsWord p0 = some r) :
  Con Try.prog 30 [v0_] A w (fun x_ : Unit => .bool r) (fun x_ => []) := by
 refine Con_of (v := fun (r : Bool) (x_ : Unit) => .bool r) (fs := fun r x_ => []) Try.func30 rfl Try.ntmps30 rfl ((SH.start hA).start_rd rfl hp0) rfl ?_ hr
 unfold F_impl_IsWord
 refine J_sr (JA rfl rfl (JL_nt (J_sr (JM rfl rfl (JL_q wn rfl (ex_len_rd 0 Try.underlying29 rfl rfl) (JL_q wn rfl (ex_leq rfl rfl) (JM rfl rfl (JL_cond (fun h1 => ?_) (fun h1 => ?_)))))))))
 ·exact JL_q (wants_some rfl rfl rfl h1) rfl (ex_move rfl) (JL_bnd fun r2 hr3 => JL_call (wants_some rfl rfl rfl h1) rfl Try.call65 rfl (Ca_of0 fun w hh => c_impl_isLetters _ w (fun _ hk => hk.elim) _ _ (hh.rd0 0 rfl) _ hr3) (fun _ => JL_q wn rfl (ex_pick_true rfl h1 rfl) (JA rfl rfl (JL_nt (J_ret (N_ret1 rfl (rv_tmp rfl) (fun w hh => ⟨(), rfl, hh.sel [] rfl⟩)))))))
 ·exact JL_passed rfl rfl rfl h1 (JL_passed rfl rfl rfl h1 (JL_q wn rfl (ex_pick_false rfl h1 rfl) (JA rfl rfl (JL_nt (J_ret (N_ret1 rfl (rv_tmp rfl) (fun w hh => ⟨(), rfl, hh.sel [] rfl⟩)))))))
end Go.Proofs.Ytgpimmdigeobbaa
