/-
  Each function of the program computes what its plain function says: printed by program. No condition.
-/
import Derived.Test.YtabpcmbohmodnaaFn
import Derived.Test.YtabpcmbohmodnaaInf
import Derived.Test.YtabpcmbohmodnaaCon1
namespace Go.Proofs.Ytabpcmbohmodnaa
open Go Go.Tc Go.Fn
set_option linter.unusedVariables false

set_option maxHeartbeats 40000000 in
theorem c_spec_R8Machine (A : Nat → Prop) (w : World) (hA : ∀ k, A k → k < w.heap.size) (v0_ : Value) (p0 : (List (Ik .u8))) (hp0 : Rd A w v0_ p0) (r : GMachine × GConfig) (hr : F_spec_R8Machine p0 = some r) :
    Con Try.prog 5 [v0_] A w (fun x_ : Value × Value × Value => .tuple #[.agg #[.int .i64 r.1.Symbols, .int .i64 r.1.States, x_.1], .agg #[.int .i64 r.2.State, x_.2.1, x_.2.2]]) (fun x_ => [.ow 49 x_.1 r.1.Rules, .ow 2 x_.2.1 r.2.Left, .ow 2 x_.2.2 r.2.Right]) := by
  refine Con_of (v := fun (r : GMachine × GConfig) (x_ : Value × Value × Value) => .tuple #[.agg #[.int .i64 r.1.Symbols, .int .i64 r.1.States, x_.1], .agg #[.int .i64 r.2.State, x_.2.1, x_.2.2]]) (fs := fun r x_ => [.ow 49 x_.1 r.1.Rules, .ow 2 x_.2.1 r.2.Left, .ow 2 x_.2.2 r.2.Right]) Try.func5 rfl Try.ntmps5 rfl ((SH.start hA).start_rd rfl hp0) rfl ?_ hr
  unfold F_spec_R8Machine
  refine J_seq ?_
  refine J_region ?_
  refine JL_st (wants_none rfl) rfl (st_alloc zi_26 rfl) (fun b1 => ?_)
  refine JL_st (wants_none rfl) rfl (st_alloc zi_29 rfl) (fun b2 => ?_)
  refine JL_nil ?_
  refine N_then ?_
  refine J_seq ?_
  refine J_region ?_
  refine JL_q (wants_none rfl) rfl (ex_move rfl) ?_
  refine JL_bnd fun r3 hr4 => ?_
  refine JL_call (wants_none rfl) rfl Try.call10 rfl (Ca_self (fun _ => rfl) fun w hh => c_spec_l00From _ w (fun _ hk => hk.elim) _ _ (hh.rd0 2 rfl) _ hr4) (fun x5 => ?_)
  obtain ⟨x5_0, x5_1⟩ := x5
  refine JL_ctx (fun w hh => hh.sub_rd 4 rfl (hh.pr 0 rfl)) ?_
  refine JL_q (wants_none rfl) rfl (ex_assign rfl) ?_
  refine JL_nil ?_
  refine N_then ?_
  refine J_seq ?_
  refine J_region ?_
  refine JL_q (wants_none rfl) rfl (ex_move rfl) ?_
  refine JL_bnd fun r6 hr7 => ?_
  refine JL_callT (wants_none rfl) rfl Try.call11 rfl (CaT_of [2] [0, 1, 3, 4, 5] rfl rfl (fun _ => rfl) fun w hh => c_spec_l05DrawOk w x5_1 (⟨r3.1, r3.2.1, r3.2.2⟩ : Gl00Src) x5_0 _ rfl (hh.handed [2] rfl rfl rfl rfl) (hh.apart [2] rfl (hh.rd 0 rfl)) _ hr7) (fun x8 => ?_)
  refine JL_st (wants_none rfl) rfl (st_alloc zi_26 rfl) (fun b9 => ?_)
  refine JL_sk (wants_none rfl) (sk_store_bx' 0 ti_26 rfl rfl (fun w hh => (cv_aggs ⟨cv_int, cv_int, (hh.cv_ow 1 rfl), trivial⟩)) rfl rfl rfl rfl) ?_
  refine JL_nil ?_
  refine N_then ?_
  refine J_seq ?_
  refine J_region ?_
  refine JL_q (wants_none rfl) rfl (ex_move rfl) ?_
  refine JL_q (wants_none rfl) rfl (ex_fieldAddr fi_26_1 rfl rfl) ?_
  refine JL_q (wants_none rfl) rfl (ex_load_bx 0 ti_2 rfl rfl rfl) ?_
  refine JL_bnd fun r10 hr11 => ?_
  refine JL_callT (wants_none rfl) rfl Try.call12 rfl (CaT_of [2] [0, 1, 3, 4, 5, 6, 7] rfl rfl (fun _ => rfl) fun w hh => c_spec_l00Src_pick w x5_1 (⟨r3.1, r6.2.1, r6.2.2⟩ : Gl00Src) x5_0 _ rfl (hh.handed [2] rfl rfl rfl rfl) (hh.apart [2] rfl (hh.rd 3 rfl)) _ _ hr11) (fun _ => ?_)
  refine JL_q (wants_none rfl) rfl (ex_move rfl) ?_
  refine JL_bnd fun r12 hr13 => ?_
  refine JL_callT (wants_none rfl) rfl Try.call13 rfl (CaT_of [0, 1] [2, 3, 4, 5, 6, 7] rfl rfl (fun _ => rfl) fun w hh => c_spec_l05DrawCells w x5_1 (⟨r3.1, r10.2.1, r10.2.2⟩ : Gl00Src) x5_0 b9 r6.1 x8 _ rfl (hh.handed [0, 1] rfl rfl rfl rfl) (hh.apart [0, 1] rfl (hh.rd 3 rfl)) ((hh.freeze 2 rfl).apart [0, 1] rfl ((hh.freeze 2 rfl).rd 2 rfl)) _ hr13) (fun x14 => ?_)
  refine JL_q (wants_none rfl) rfl (ex_move rfl) ?_
  refine JL_bnd fun r15 hr16 => ?_
  refine JL_callT (wants_none rfl) rfl Try.call13 rfl (CaT_of [1, 2] [0, 3, 4, 5, 6, 7, 8] rfl rfl (fun _ => rfl) fun w hh => c_spec_l05DrawCells w x5_1 (⟨r3.1, r12.2.1, r12.2.2⟩ : Gl00Src) x5_0 b9 r6.1 x8 _ rfl (hh.handed [1, 2] rfl rfl rfl rfl) (hh.apart [1, 2] rfl (hh.rd 4 rfl)) ((hh.freeze 3 rfl).apart [1, 2] rfl ((hh.freeze 3 rfl).rd 3 rfl)) _ hr16) (fun x17 => ?_)
  refine JL_q (wants_none rfl) rfl (ex_build si_29 rfl (.cons fi_29_0 rfl rfl (.cons fi_29_1 rfl rfl (.cons fi_29_2 rfl rfl .nil))) (fun w hh => ⟨cv_int, (hh.cv_ow 3 rfl), (hh.cv_ow 0 rfl), trivial⟩)) ?_
  refine JL_st (wants_none rfl) rfl (st_alloc zi_29 rfl) (fun b18 => ?_)
  refine JL_sk (wants_none rfl) (sk_store_bx' 0 ti_29 rfl rfl (fun w hh => (cv_aggs ⟨cv_int, (hh.cv_ow 4 rfl), (hh.cv_ow 1 rfl), trivial⟩)) rfl rfl rfl rfl) ?_
  refine JL_nil ?_
  refine N_then ?_
  refine J_seq ?_
  refine J_seq ?_
  refine J_region ?_
  refine JL_q (wants_none rfl) rfl (ex_move rfl) ?_
  refine JL_bnd fun r19 hr20 => ?_
  refine JL_callT (wants_none rfl) rfl Try.call14 rfl (CaT_of [2] [0, 1, 3, 4, 5, 6, 7, 8, 9, 10] rfl rfl (fun _ => rfl) fun w hh => c_spec_l00Src_one w x5_1 (⟨r3.1, r15.2.1, r15.2.2⟩ : Gl00Src) x5_0 _ rfl (hh.handed [2] rfl rfl rfl rfl) (hh.apart [2] rfl (hh.rd 6 rfl)) _ _ hr20) (fun _ => ?_)
  refine JL_nil ?_
  refine N_then ?_
  refine J_if rfl (fun h21 => ?_) (fun h21 => ?_)
  · refine J_region ?_
    refine JL_bnd fun r22 hr23 => ?_
    refine JL_call (wants_none rfl) rfl Try.call15 rfl (Ca_self (fun _ => rfl) fun w hh => c_spec_l25Blank _ w (fun _ hk => hk.elim)  _ hr23) (fun x24 => ?_)
    obtain ⟨x24_0, x24_1⟩ := x24
    refine JL_sk (wants_none rfl) (sk_store_bx' 3 ti_29 rfl rfl (fun w hh => (cv_aggs ⟨cv_int, (hh.cv_ow 0 rfl), (hh.cv_ow 1 rfl), trivial⟩)) rfl rfl rfl rfl) ?_
    refine JL_nil ?_
    refine N_then ?_
    refine J_seq ?_
    refine J_draw [10, 11] (by kernel_rfl) ?_
    refine JP_take (i := 0) [0, 1, 2, 3, 4, 5, 6, 7, 8, 9, 12] [10, 11] rfl (by kernel_rfl) (by kernel_rfl) (by kernel_rfl) rfl rfl (wants_none rfl) rfl (ex_load_bx_agg 5 ti_26 rfl rfl rfl rfl) ?_
    refine JP_take (i := 1) [0, 1, 2, 3, 4, 5, 6, 7, 8, 9, 12] [10, 11] rfl (by kernel_rfl) (by kernel_rfl) (by kernel_rfl) rfl rfl (wants_none rfl) rfl (ex_load_bx_agg 3 ti_29 rfl rfl rfl rfl) ?_
    refine JP_go [0, 1, 2, 3, 4, 5, 6, 7, 8, 9, 12] [10, 11] rfl rfl rfl (fun w26 h1_27 hp25 => ?_)
    refine JD_one (i := 2) (by kernel_rfl) ?_
    refine JO_sk rfl (wants_none rfl) (sk_store_bx' 11 ti_26 rfl rfl (fun w hh => (cv_aggs ⟨cv_int, cv_int, (hh.cv_ow 7 rfl), trivial⟩)) rfl rfl rfl rfl) (sub_bx 1 rfl) ?_
    refine JD_one (i := 3) (by kernel_rfl) ?_
    refine JO_sk rfl (wants_none rfl) (sk_store_bx' 10 ti_29 rfl rfl (fun w hh => (cv_aggs ⟨cv_int, (hh.cv_ow 0 rfl), (hh.cv_ow 1 rfl), trivial⟩)) rfl rfl rfl rfl) (sub_bx 0 rfl) ?_
    refine JD_done (by kernel_rfl) ?_
    refine N_then ?_
    refine J_ret ?_
    exact N_ret2 rfl (rv_cell 11 rfl rfl ti_26 rfl) (rv_cell 10 rfl rfl ti_29 rfl) (fun w hh => ⟨(x8, x24_0, x24_1), rfl, hh.sel [7, 0, 1] rfl⟩)
  · refine J_skip ?_
    refine N_then ?_
    refine J_seq ?_
    refine J_draw [8, 9] (by kernel_rfl) ?_
    refine JP_take (i := 0) [0, 1, 2, 3, 4, 5, 6, 7, 10] [8, 9] rfl (by kernel_rfl) (by kernel_rfl) (by kernel_rfl) rfl rfl (wants_none rfl) rfl (ex_load_bx_agg 3 ti_26 rfl rfl rfl rfl) ?_
    refine JP_take (i := 1) [0, 1, 2, 3, 4, 5, 6, 7, 10] [8, 9] rfl (by kernel_rfl) (by kernel_rfl) (by kernel_rfl) rfl rfl (wants_none rfl) rfl (ex_load_bx_agg 1 ti_29 rfl rfl rfl rfl) ?_
    refine JP_go [0, 1, 2, 3, 4, 5, 6, 7, 10] [8, 9] rfl rfl rfl (fun w29 h1_30 hp28 => ?_)
    refine JD_one (i := 2) (by kernel_rfl) ?_
    refine JO_sk rfl (wants_none rfl) (sk_store_bx' 9 ti_26 rfl rfl (fun w hh => (cv_aggs ⟨cv_int, cv_int, (hh.cv_ow 5 rfl), trivial⟩)) rfl rfl rfl rfl) (sub_bx 1 rfl) ?_
    refine JD_one (i := 3) (by kernel_rfl) ?_
    refine JO_sk rfl (wants_none rfl) (sk_store_bx' 8 ti_29 rfl rfl (fun w hh => (cv_aggs ⟨cv_int, (hh.cv_ow 4 rfl), (hh.cv_ow 2 rfl), trivial⟩)) rfl rfl rfl rfl) (sub_bx 0 rfl) ?_
    refine JD_done (by kernel_rfl) ?_
    refine N_then ?_
    refine J_ret ?_
    exact N_ret2 rfl (rv_cell 9 rfl rfl ti_26 rfl) (rv_cell 8 rfl rfl ti_29 rfl) (fun w hh => ⟨(x8, x14, x17), rfl, hh.sel [5, 4, 2] rfl⟩)

set_option maxHeartbeats 40000000 in
theorem c_impl_within (A : Nat → Prop) (w : World) (hA : ∀ k, A k → k < w.heap.size) (p0 : Int) (p1 : Int) (p2 : Int) (r : Bool) (hr : F_impl_within p0 p1 p2 = some r) :
    Con Try.prog 22 [.int .i64 p0, .int .i64 p1, .int .i64 p2] A w (fun x_ : Unit => .bool r) (fun x_ => []) := by
  refine Con_of (v := fun (r : Bool) (x_ : Unit) => .bool r) (fs := fun r x_ => []) Try.func22 rfl Try.ntmps22 rfl (SH.start hA) rfl ?_ hr
  unfold F_impl_within
  refine J_seq ?_
  refine J_region ?_
  refine JL_q (wants_none rfl) rfl (ex_assign rfl) ?_
  refine JL_nil ?_
  refine N_then ?_
  refine J_seq ?_
  refine J_region ?_
  refine JL_q (wants_none rfl) rfl (ex_move rfl) ?_
  refine JL_q (wants_none rfl) rfl (ex_move rfl) ?_
  refine JL_q (wants_none rfl) rfl (ex_leq rfl rfl) ?_
  refine JL_q (wants_none rfl) rfl (ex_move rfl) ?_
  refine JL_cond (fun h1 => ?_) (fun h1 => ?_)
  · refine JL_q (wants_some rfl rfl rfl h1) rfl (ex_move rfl) ?_
    refine JL_q (wants_some rfl rfl rfl h1) rfl (ex_move rfl) ?_
    refine JL_q (wants_some rfl rfl rfl h1) rfl (ex_leq rfl rfl) ?_
    refine JL_q (wants_none rfl) rfl (ex_pick_true rfl h1 rfl) ?_
    refine JL_q (wants_none rfl) rfl (ex_assign rfl) ?_
    refine JL_nil ?_
    refine N_then ?_
    refine J_ret ?_
    exact N_ret1 rfl (rv_tmp rfl) (fun w hh => ⟨(), rfl, hh.sel [] rfl⟩)
  · refine JL_passed rfl rfl rfl h1 ?_
    refine JL_passed rfl rfl rfl h1 ?_
    refine JL_passed rfl rfl rfl h1 ?_
    refine JL_q (wants_none rfl) rfl (ex_pick_false rfl h1 rfl) ?_
    refine JL_q (wants_none rfl) rfl (ex_assign rfl) ?_
    refine JL_nil ?_
    refine N_then ?_
    refine J_ret ?_
    exact N_ret1 rfl (rv_tmp rfl) (fun w hh => ⟨(), rfl, hh.sel [] rfl⟩)

set_option maxHeartbeats 40000000 in
theorem c_impl_size_impl_Rule (A : Nat → Prop) (w : World) (hA : ∀ k, A k → k < w.heap.size) (v0_ : Value) (p0 : (List GRule)) (hp0 : Rd A w v0_ p0) (r : Int) (hr : F_impl_size_impl_Rule p0 = some r) :
    Con Try.prog 23 [v0_] A w (fun x_ : Unit => .int .i64 r) (fun x_ => []) := by
  refine Con_of (v := fun (r : Int) (x_ : Unit) => .int .i64 r) (fs := fun r x_ => []) Try.func23 rfl Try.ntmps23 rfl ((SH.start hA).start_rd rfl hp0) rfl ?_ hr
  unfold F_impl_size_impl_Rule
  refine J_seq ?_
  refine J_region ?_
  refine JL_q (wants_none rfl) rfl (ex_assign rfl) ?_
  refine JL_nil ?_
  refine N_then ?_
  refine J_seq ?_
  refine J_region ?_
  refine JL_q (wants_none rfl) rfl (ex_move rfl) ?_
  refine JL_q (wants_none rfl) rfl (ex_len_rd 0 Try.underlying24 rfl rfl) ?_
  refine JL_q (wants_none rfl) rfl (ex_assign rfl) ?_
  refine JL_nil ?_
  refine N_then ?_
  refine J_ret ?_
  exact N_ret1 rfl (rv_tmp rfl) (fun w hh => ⟨(), rfl, hh.sel [] rfl⟩)

set_option maxHeartbeats 40000000 in
theorem c_impl_noRule (A : Nat → Prop) (w : World) (hA : ∀ k, A k → k < w.heap.size)  (r : GRule) (hr : F_impl_noRule  = some r) :
    Con Try.prog 38 [] A w (fun x_ : Unit => .agg #[.int .i64 r.Write, .int .i64 r.Move, .int .i64 r.Next]) (fun x_ => []) := by
  refine Con_of (v := fun (r : GRule) (x_ : Unit) => .agg #[.int .i64 r.Write, .int .i64 r.Move, .int .i64 r.Next]) (fs := fun r x_ => []) Try.func38 rfl Try.ntmps38 rfl (SH.start hA) rfl ?_ hr
  unfold F_impl_noRule
  refine J_seq ?_
  refine J_region ?_
  refine JL_st (wants_none rfl) rfl (st_alloc zi_49 rfl) (fun b1 => ?_)
  refine JL_nil ?_
  refine N_then ?_
  refine J_seq ?_
  refine J_region ?_
  refine JL_q (wants_none rfl) rfl (ex_build si_49 rfl (.cons fi_49_2 rfl rfl .nil) (fun w hh => ⟨cv_int, trivial⟩)) ?_
  refine JL_sk (wants_none rfl) (sk_store_bx' 0 ti_49 rfl rfl (fun w hh => (cv_aggs ⟨cv_int, cv_int, cv_int, trivial⟩)) rfl rfl rfl rfl) ?_
  refine JL_nil ?_
  refine N_then ?_
  refine J_ret ?_
  exact N_ret1 rfl (rv_cell 0 rfl rfl ti_49 rfl) (fun w hh => ⟨(), rfl, hh.sel [] rfl⟩)

set_option maxHeartbeats 40000000 in
theorem c_impl_isRule (A : Nat → Prop) (w : World) (hA : ∀ k, A k → k < w.heap.size) (v0_ : Value) (p0 : GRule) (hp0 : Rd A w v0_ p0) (r : Bool) (hr : F_impl_isRule p0 = some r) :
    Con Try.prog 19 [v0_] A w (fun x_ : Unit => .bool r) (fun x_ => []) := by
  obtain rfl := GRule.open hp0
  refine Con_of (v := fun (r : Bool) (x_ : Unit) => .bool r) (fs := fun r x_ => []) Try.func19 rfl Try.ntmps19 rfl (SH.start hA) rfl ?_ hr
  unfold F_impl_isRule
  refine J_seq ?_
  refine J_region ?_
  refine JL_st (wants_none rfl) rfl (st_box' rfl (fun w hh => (cv_aggs ⟨cv_int, cv_int, cv_int, trivial⟩))) (fun b1 => ?_)
  refine JL_q (wants_none rfl) rfl (ex_assign rfl) ?_
  refine JL_nil ?_
  refine N_then ?_
  refine J_seq ?_
  refine J_draw [] (by kernel_rfl) ?_
  refine JP_take (i := 0) [0] [] rfl (by kernel_rfl) (by kernel_rfl) (by kernel_rfl) rfl rfl (wants_none rfl) rfl (ex_load_bx_agg 0 ti_49 rfl rfl rfl rfl) ?_
  refine JP_go [0] [] rfl rfl rfl (fun w3 h1_4 hp2 => ?_)
  refine JD_bnd fun r5 hr6 => ?_
  refine JD_one (i := 1) (by kernel_rfl) ?_
  refine JO_call rfl (wants_none rfl) rfl Try.call38 rfl (Ca_of0 fun w hh => c_impl_noRule _ w (fun _ hk => hk.elim)  _ hr6) (fun _ => ?_)
  refine JD_take (i := 2) hp2 rfl (by kernel_rfl) (by kernel_rfl) (by kernel_rfl) (wants_none rfl) rfl (ex_neq_seq_49 rfl rfl) ?_
  refine JD_take (i := 3) hp2 rfl (by kernel_rfl) (by kernel_rfl) (by kernel_rfl) (wants_none rfl) rfl (ex_assign rfl) ?_
  refine JD_done (by kernel_rfl) ?_
  refine N_then ?_
  refine J_ret ?_
  exact N_ret1 rfl (rv_tmp rfl) (fun w hh => ⟨(), rfl, hh.sel [] rfl⟩)

set_option maxHeartbeats 40000000 in
theorem c_impl_validRule (A : Nat → Prop) (w : World) (hA : ∀ k, A k → k < w.heap.size) (v0_ : Value) (p0 : GMachine) (hp0 : Rd A w v0_ p0) (v1_ : Value) (p1 : GRule) (hp1 : Rd A w v1_ p1) (r : Bool) (hr : F_impl_validRule p0 p1 = some r) :
    Con Try.prog 26 [v0_, v1_] A w (fun x_ : Unit => .bool r) (fun x_ => []) := by
  obtain ⟨v0_0, rfl, hp0_0⟩ := GMachine.open hp0
  obtain rfl := GRule.open hp1
  refine Con_of (v := fun (r : Bool) (x_ : Unit) => .bool r) (fs := fun r x_ => []) Try.func26 rfl Try.ntmps26 rfl ((SH.start hA).start_rd rfl hp0_0) rfl ?_ hr
  unfold F_impl_validRule
  refine J_seq ?_
  refine J_region ?_
  refine JL_st (wants_none rfl) rfl (st_box' rfl (fun w hh => (cv_aggs ⟨cv_int, cv_int, (hh.cv 0 rfl), trivial⟩))) (fun b1 => ?_)
  refine JL_st (wants_none rfl) rfl (st_box' rfl (fun w hh => (cv_aggs ⟨cv_int, cv_int, cv_int, trivial⟩))) (fun b2 => ?_)
  refine JL_q (wants_none rfl) rfl (ex_assign rfl) ?_
  refine JL_nil ?_
  refine N_then ?_
  refine J_seq ?_
  refine J_seq ?_
  refine J_region ?_
  refine JL_q (wants_none rfl) rfl (ex_load_bx_agg 0 ti_49 rfl rfl rfl rfl) ?_
  refine JL_bnd fun r3 hr4 => ?_
  refine JL_call (wants_none rfl) rfl Try.call19 rfl (Ca_of0 fun w hh => c_impl_isRule _ w (fun _ hk => hk.elim) _ _ (GRule.rdmk (Rd.mk_int _ _ _) (Rd.mk_int _ _ _) (Rd.mk_int _ _ _)) _ hr4) (fun _ => ?_)
  refine JL_q (wants_none rfl) rfl (ex_not rfl) ?_
  refine JL_nil ?_
  refine N_then ?_
  refine J_if rfl (fun h5 => ?_) (fun h5 => ?_)
  · refine J_seq ?_
    refine J_region ?_
    refine JL_q (wants_none rfl) rfl (ex_assign rfl) ?_
    refine JL_nil ?_
    refine N_then ?_
    refine J_ret ?_
    refine N_then_ret ?_
    exact N_ret1 rfl (rv_tmp rfl) (fun w hh => ⟨(), rfl, hh.sel [] rfl⟩)
  · refine J_skip ?_
    refine N_then ?_
    refine J_seq ?_
    refine J_region ?_
    refine JL_q (wants_none rfl) rfl (ex_fieldAddr fi_49_0 rfl rfl) ?_
    refine JL_q (wants_none rfl) rfl (ex_load_bx 0 ti_2 rfl rfl rfl) ?_
    refine JL_q (wants_none rfl) rfl (ex_fieldAddr fi_26_0 rfl rfl) ?_
    refine JL_q (wants_none rfl) rfl (ex_load_bx 1 ti_2 rfl rfl rfl) ?_
    refine JL_q (wants_none rfl) rfl (ex_sub rfl rfl) ?_
    refine JL_bnd fun r6 hr7 => ?_
    refine JL_call (wants_none rfl) rfl Try.call22 rfl (Ca_of0 fun w hh => c_impl_within _ w (fun _ hk => hk.elim) _ _ _ _ hr7) (fun _ => ?_)
    refine JL_q (wants_none rfl) rfl (ex_move rfl) ?_
    refine JL_cond (fun h8 => ?_) (fun h8 => ?_)
    · refine JL_q (wants_some rfl rfl rfl h8) rfl (ex_fieldAddr fi_49_1 rfl rfl) ?_
      refine JL_q (wants_some rfl rfl rfl h8) rfl (ex_load_bx 0 ti_2 rfl rfl rfl) ?_
      refine JL_q (wants_some rfl rfl rfl h8) rfl (ex_eql rfl rfl) ?_
      refine JL_q (wants_some rfl rfl rfl h8) rfl (ex_move rfl) ?_
      refine JL_cond (fun h9 => ?_) (fun h9 => ?_)
      · refine JL_passed rfl rfl rfl h9 ?_
        refine JL_passed rfl rfl rfl h9 ?_
        refine JL_passed rfl rfl rfl h9 ?_
        refine JL_q (wants_some rfl rfl rfl h8) rfl (ex_pick_true rfl h9 rfl) ?_
        refine JL_q (wants_none rfl) rfl (ex_pick_true rfl h8 rfl) ?_
        refine JL_q (wants_none rfl) rfl (ex_move rfl) ?_
        refine JL_q (wants_some rfl rfl rfl rfl) rfl (ex_fieldAddr fi_49_2 rfl rfl) ?_
        refine JL_q (wants_some rfl rfl rfl rfl) rfl (ex_load_bx 0 ti_2 rfl rfl rfl) ?_
        refine JL_q (wants_some rfl rfl rfl rfl) rfl (ex_fieldAddr fi_26_1 rfl rfl) ?_
        refine JL_q (wants_some rfl rfl rfl rfl) rfl (ex_load_bx 1 ti_2 rfl rfl rfl) ?_
        refine JL_q (wants_some rfl rfl rfl rfl) rfl (ex_sub rfl rfl) ?_
        refine JL_bnd fun r10 hr11 => ?_
        refine JL_call (wants_some rfl rfl rfl rfl) rfl Try.call22 rfl (Ca_of0 fun w hh => c_impl_within _ w (fun _ hk => hk.elim) _ _ _ _ hr11) (fun _ => ?_)
        refine JL_q (wants_none rfl) rfl (ex_pick_true rfl rfl rfl) ?_
        refine JL_q (wants_none rfl) rfl (ex_assign rfl) ?_
        refine JL_nil ?_
        refine N_then ?_
        refine J_ret ?_
        exact N_ret1 rfl (rv_tmp rfl) (fun w hh => ⟨(), rfl, hh.sel [] rfl⟩)
      · refine JL_q (wants_some rfl rfl rfl h9) rfl (ex_fieldAddr fi_49_1 rfl rfl) ?_
        refine JL_q (wants_some rfl rfl rfl h9) rfl (ex_load_bx 0 ti_2 rfl rfl rfl) ?_
        refine JL_q (wants_some rfl rfl rfl h9) rfl (ex_eql rfl rfl) ?_
        refine JL_q (wants_some rfl rfl rfl h8) rfl (ex_pick_false rfl h9 rfl) ?_
        refine JL_q (wants_none rfl) rfl (ex_pick_true rfl h8 rfl) ?_
        refine JL_q (wants_none rfl) rfl (ex_move rfl) ?_
        refine JL_cond (fun h12 => ?_) (fun h12 => ?_)
        · refine JL_q (wants_some rfl rfl rfl h12) rfl (ex_fieldAddr fi_49_2 rfl rfl) ?_
          refine JL_q (wants_some rfl rfl rfl h12) rfl (ex_load_bx 0 ti_2 rfl rfl rfl) ?_
          refine JL_q (wants_some rfl rfl rfl h12) rfl (ex_fieldAddr fi_26_1 rfl rfl) ?_
          refine JL_q (wants_some rfl rfl rfl h12) rfl (ex_load_bx 1 ti_2 rfl rfl rfl) ?_
          refine JL_q (wants_some rfl rfl rfl h12) rfl (ex_sub rfl rfl) ?_
          refine JL_bnd fun r13 hr14 => ?_
          refine JL_call (wants_some rfl rfl rfl h12) rfl Try.call22 rfl (Ca_of0 fun w hh => c_impl_within _ w (fun _ hk => hk.elim) _ _ _ _ hr14) (fun _ => ?_)
          refine JL_q (wants_none rfl) rfl (ex_pick_true rfl h12 rfl) ?_
          refine JL_q (wants_none rfl) rfl (ex_assign rfl) ?_
          refine JL_nil ?_
          refine N_then ?_
          refine J_ret ?_
          exact N_ret1 rfl (rv_tmp rfl) (fun w hh => ⟨(), rfl, hh.sel [] rfl⟩)
        · refine JL_passed rfl rfl rfl h12 ?_
          refine JL_passed rfl rfl rfl h12 ?_
          refine JL_passed rfl rfl rfl h12 ?_
          refine JL_passed rfl rfl rfl h12 ?_
          refine JL_passed rfl rfl rfl h12 ?_
          refine JL_passed rfl rfl rfl h12 ?_
          refine JL_q (wants_none rfl) rfl (ex_pick_false rfl h12 rfl) ?_
          refine JL_q (wants_none rfl) rfl (ex_assign rfl) ?_
          refine JL_nil ?_
          refine N_then ?_
          refine J_ret ?_
          exact N_ret1 rfl (rv_tmp rfl) (fun w hh => ⟨(), rfl, hh.sel [] rfl⟩)
    · refine JL_passed rfl rfl rfl h8 ?_
      refine JL_passed rfl rfl rfl h8 ?_
      refine JL_passed rfl rfl rfl h8 ?_
      refine JL_passed rfl rfl rfl h8 ?_
      refine JL_passed_undef rfl rfl rfl ?_
      refine JL_passed_undef rfl rfl rfl ?_
      refine JL_passed_undef rfl rfl rfl ?_
      refine JL_passed rfl rfl rfl h8 ?_
      refine JL_q (wants_none rfl) rfl (ex_pick_false rfl h8 rfl) ?_
      refine JL_q (wants_none rfl) rfl (ex_move rfl) ?_
      refine JL_passed rfl rfl rfl rfl ?_
      refine JL_passed rfl rfl rfl rfl ?_
      refine JL_passed rfl rfl rfl rfl ?_
      refine JL_passed rfl rfl rfl rfl ?_
      refine JL_passed rfl rfl rfl rfl ?_
      refine JL_passed rfl rfl rfl rfl ?_
      refine JL_q (wants_none rfl) rfl (ex_pick_false rfl rfl rfl) ?_
      refine JL_q (wants_none rfl) rfl (ex_assign rfl) ?_
      refine JL_nil ?_
      refine N_then ?_
      refine J_ret ?_
      exact N_ret1 rfl (rv_tmp rfl) (fun w hh => ⟨(), rfl, hh.sel [] rfl⟩)

set_option maxHeartbeats 40000000 in
theorem c_impl_ValidMachine_1 (A : Nat → Prop) (w : World) (hA : ∀ k, A k → k < w.heap.size) (v0_ : Value) (p0 : GRule) (hp0 : Rd A w v0_ p0) (v1_ : Value) (p1 : GMachine) (hp1 : RdA A w.heap.size w v1_ p1) (r : Bool) (hr : F_impl_ValidMachine_1 p0 p1 = some r) :
    Con Try.prog 25 [v0_, v1_] A w (fun x_ : Unit => .bool r) (fun x_ => []) := by
  obtain rfl := GRule.open hp0
  refine Con_of (v := fun (r : Bool) (x_ : Unit) => .bool r) (fs := fun r x_ => []) Try.func25 rfl Try.ntmps25 rfl ((SH.start hA).start_pa' rfl hp1) rfl ?_ hr
  unfold F_impl_ValidMachine_1
  refine J_seq ?_
  refine J_region ?_
  refine JL_st (wants_none rfl) rfl (st_box' rfl (fun w hh => (cv_aggs ⟨cv_int, cv_int, cv_int, trivial⟩))) (fun b1 => ?_)
  refine JL_q (wants_none rfl) rfl (ex_assign rfl) ?_
  refine JL_nil ?_
  refine N_then ?_
  refine J_seq ?_
  refine J_region ?_
  refine JL_st (wants_none rfl) rfl (st_load_pa_o 1 (GMachine.opens _) ti_26 rfl rfl) (fun v2 => ?_)
  refine JL_q (wants_none rfl) rfl (ex_load_bx_agg 1 ti_49 rfl rfl rfl rfl) ?_
  refine JL_bnd fun r3 hr4 => ?_
  refine JL_call (wants_none rfl) rfl Try.call26 rfl (Ca_of0 fun w hh => c_impl_validRule _ w (fun _ hk => hk.elim) _ _ (GMachine.rdmk (Rd.mk_int _ _ _) (Rd.mk_int _ _ _) (hh.rd0 0 rfl)) _ _ (GRule.rdmk (Rd.mk_int _ _ _) (Rd.mk_int _ _ _) (Rd.mk_int _ _ _)) _ hr4) (fun _ => ?_)
  refine JL_q (wants_none rfl) rfl (ex_not rfl) ?_
  refine JL_q (wants_none rfl) rfl (ex_assign rfl) ?_
  refine JL_nil ?_
  refine N_then ?_
  refine J_ret ?_
  exact N_ret1 rfl (rv_tmp rfl) (fun w hh => ⟨(), rfl, hh.sel [] rfl⟩)

set_option maxHeartbeats 40000000 in
theorem c_slices_IndexFunc_Simpl_Rule_impl_Rule (A : Nat → Prop) (w : World) (hA : ∀ k, A k → k < w.heap.size) (v0_ : Value) (p0 : (List GRule)) (hp0 : Rd A w v0_ p0) (v1_ : Value) (p1 : (GRule → Option Bool)) (hp1 : Clo Try.prog w v1_ p1 .bool) (r : Int) (hr : F_slices_IndexFunc_Simpl_Rule_impl_Rule p0 p1 = some r) :
    Con Try.prog 41 [v0_, v1_] A w (fun x_ : Unit => .int .i64 r) (fun x_ => []) := by
  refine Con_of (v := fun (r : Int) (x_ : Unit) => .int .i64 r) (fs := fun r x_ => []) Try.func41 rfl Try.ntmps41 rfl ((SH.start hA).start_rd rfl hp0) rfl ?_ hr
  unfold F_slices_IndexFunc_Simpl_Rule_impl_Rule
  refine J_seq ?_
  refine J_region ?_
  refine JL_q (wants_none rfl) rfl (ex_assign rfl) ?_
  refine JL_nil ?_
  refine N_then ?_
  refine J_seq ?_
  refine J_seq ?_
  refine J_region ?_
  refine JL_q (wants_none rfl) rfl (ex_move rfl) ?_
  refine JL_q (wants_none rfl) rfl (ex_len_rd 0 Try.underlying24 rfl rfl) ?_
  refine JL_q (wants_none rfl) rfl (ex_move rfl) ?_
  refine JL_nil ?_
  refine N_then ?_
  refine J_loop' (S := Int) (G := Unit) (F_slices_IndexFunc_Simpl_Rule_impl_Rule_L1 p0 p1) (fun s1 _ => [(0, v0_), (1, v1_), (7, .int .i64 (p0.length : Int)), (8, .int .i64 s1)]) (fun s1 _ => [.rd v0_ p0]) 0 () ⟨rfl, rfl, rfl, rfl, trivial⟩ [0] rfl rfl (fun s1 g2 => ?_) (fun s1 g2 => ?_)
  · unfold F_slices_IndexFunc_Simpl_Rule_impl_Rule_L1
    refine J_seq ?_
    refine J_region ?_
    refine JL_q (wants_none rfl) rfl (ex_lss rfl rfl) ?_
    refine JL_nil ?_
    refine N_then ?_
    refine J_seq ?_
    refine J_if rfl (fun h3 => ?_) (fun h3 => ?_)
    · refine J_skip ?_
      refine N_then ?_
      refine J_seq ?_
      refine J_block ?_
      refine J_seq ?_
      refine J_region ?_
      refine JL_q (wants_none rfl) rfl (ex_move rfl) ?_
      refine JL_q (wants_none rfl) rfl (ex_assign rfl) ?_
      refine JL_nil ?_
      refine N_then ?_
      refine J_seq ?_
      refine J_region ?_
      refine JL_q (wants_none rfl) rfl (ex_move rfl) ?_
      refine JL_q (wants_none rfl) rfl (ex_move rfl) ?_
      refine JL_q (wants_none rfl) rfl (ex_move rfl) ?_
      refine JL_bnd fun y4 hy5 => ?_
      refine JL_st (wants_none rfl) rfl (st_index 0 Try.underlying24 ti_49 rfl rfl rfl hy5) (fun q6 => ?_)
      refine JL_st (wants_none rfl) rfl (st_load_pt_o 0 (GRule.opens _) ti_49 rfl rfl) (fun _ => ?_)
      refine JL_bnd fun r8 hr9 => ?_
      refine JL_clo (wants_none rfl) rfl hp1 rfl rfl (fun w hh => (GRule.rdmk (Rd.mk_int _ _ _) (Rd.mk_int _ _ _) (Rd.mk_int _ _ _))) hr9 ?_
      refine JL_nil ?_
      refine N_then ?_
      refine J_if rfl (fun h10 => ?_) (fun h10 => ?_)
      · refine J_seq ?_
        refine J_region ?_
        refine JL_q (wants_none rfl) rfl (ex_move rfl) ?_
        refine JL_q (wants_none rfl) rfl (ex_assign rfl) ?_
        refine JL_nil ?_
        refine N_then ?_
        refine J_ret ?_
        refine N_block_ret ?_
        refine N_then_ret ?_
        refine N_round_ret ?_
        refine N_then_ret ?_
        exact N_ret1 rfl (rv_tmp rfl) (fun w hh => ⟨(), rfl, hh.sel [] rfl⟩)
      · refine J_skip ?_
        refine N_block ?_
        refine N_then ?_
        refine J_region ?_
        refine JL_q (wants_none rfl) rfl (ex_add rfl rfl) ?_
        refine JL_q (wants_none rfl) rfl (ex_move rfl) ?_
        refine JL_nil ?_
        exact N_next' () ⟨rfl, rfl, rfl, rfl, trivial⟩ [1] rfl rfl
    · refine J_exit ?_
      refine N_then_exit ?_
      exact N_break' () ⟨rfl, rfl, rfl, rfl, trivial⟩ [0] rfl rfl
  · refine N_then ?_
    refine J_seq ?_
    refine J_region ?_
    refine JL_q (wants_none rfl) rfl (ex_assign rfl) ?_
    refine JL_nil ?_
    refine N_then ?_
    refine J_ret ?_
    exact N_ret1 rfl (rv_tmp rfl) (fun w hh => ⟨(), rfl, hh.sel [] rfl⟩)

set_option maxHeartbeats 40000000 in
theorem c_slices_ContainsFunc_Simpl_Rule_impl_Rule (A : Nat → Prop) (w : World) (hA : ∀ k, A k → k < w.heap.size) (v0_ : Value) (p0 : (List GRule)) (hp0 : Rd A w v0_ p0) (v1_ : Value) (p1 : (GRule → Option Bool)) (hp1 : Clo Try.prog w v1_ p1 .bool) (r : Bool) (hr : F_slices_ContainsFunc_Simpl_Rule_impl_Rule p0 p1 = some r) :
    Con Try.prog 24 [v0_, v1_] A w (fun x_ : Unit => .bool r) (fun x_ => []) := by
  refine Con_of (v := fun (r : Bool) (x_ : Unit) => .bool r) (fs := fun r x_ => []) Try.func24 rfl Try.ntmps24 rfl ((SH.start hA).start_rd rfl hp0) rfl ?_ hr
  unfold F_slices_ContainsFunc_Simpl_Rule_impl_Rule
  refine J_seq ?_
  refine J_region ?_
  refine JL_q (wants_none rfl) rfl (ex_assign rfl) ?_
  refine JL_nil ?_
  refine N_then ?_
  refine J_seq ?_
  refine J_region ?_
  refine JL_q (wants_none rfl) rfl (ex_move rfl) ?_
  refine JL_q (wants_none rfl) rfl (ex_move rfl) ?_
  refine JL_bnd fun r1 hr2 => ?_
  refine JL_call (wants_none rfl) rfl Try.call41 rfl (Ca_of0 fun w hh => c_slices_IndexFunc_Simpl_Rule_impl_Rule _ w (fun _ hk => hk.elim) _ _ (hh.rd0 0 rfl) _ _ (hp1.later hh.below) _ hr2) (fun _ => ?_)
  refine JL_q (wants_none rfl) rfl (ex_geq rfl rfl) ?_
  refine JL_q (wants_none rfl) rfl (ex_assign rfl) ?_
  refine JL_nil ?_
  refine N_then ?_
  refine J_ret ?_
  exact N_ret1 rfl (rv_tmp rfl) (fun w hh => ⟨(), rfl, hh.sel [] rfl⟩)

set_option maxHeartbeats 40000000 in
theorem c_impl_ValidMachine (A : Nat → Prop) (w : World) (hA : ∀ k, A k → k < w.heap.size) (v0_ : Value) (p0 : GMachine) (hp0 : Rd A w v0_ p0) (r : Bool) (hr : F_impl_ValidMachine p0 = some r) :
    Con Try.prog 7 [v0_] A w (fun x_ : Unit => .bool r) (fun x_ => []) := by
  obtain ⟨v0_0, rfl, hp0_0⟩ := GMachine.open hp0
  refine Con_of (v := fun (r : Bool) (x_ : Unit) => .bool r) (fs := fun r x_ => []) Try.func7 rfl Try.ntmps7 rfl ((SH.start hA).start_rd rfl hp0_0) rfl ?_ hr
  unfold F_impl_ValidMachine
  refine J_seq ?_
  refine J_region ?_
  refine JL_st (wants_none rfl) rfl (st_box' rfl (fun w hh => (cv_aggs ⟨cv_int, cv_int, (hh.cv 0 rfl), trivial⟩))) (fun b1 => ?_)
  refine JL_q (wants_none rfl) rfl (ex_assign rfl) ?_
  refine JL_nil ?_
  refine N_then ?_
  refine J_seq ?_
  refine J_seq ?_
  refine J_draw [] (by kernel_rfl) ?_
  refine JP_take (i := 0) [0, 1] [] rfl (by kernel_rfl) (by kernel_rfl) (by kernel_rfl) rfl rfl (wants_none rfl) rfl (ex_fieldAddr fi_26_0 rfl rfl) ?_
  refine JP_take (i := 1) [0, 1] [] rfl (by kernel_rfl) (by kernel_rfl) (by kernel_rfl) rfl rfl (wants_none rfl) rfl (ex_load_bx 0 ti_2 rfl rfl rfl) ?_
  refine JP_go [0, 1] [] rfl rfl rfl (fun w3 h1_4 hp2 => ?_)
  refine JD_bnd fun r5 hr6 => ?_
  refine JD_one (i := 2) (by kernel_rfl) ?_
  refine JO_call rfl (wants_none rfl) rfl Try.call22 rfl (Ca_of0 fun w hh => c_impl_within _ w (fun _ hk => hk.elim) _ _ _ _ hr6) (fun _ => ?_)
  refine JD_take (i := 3) hp2 rfl (by kernel_rfl) (by kernel_rfl) (by kernel_rfl) (wants_none rfl) rfl (ex_not rfl) ?_
  refine JD_take (i := 4) hp2 rfl (by kernel_rfl) (by kernel_rfl) (by kernel_rfl) (wants_none rfl) rfl (ex_move rfl) ?_
  refine JD_cond (fun h7 => ?_) (fun h7 => ?_)
  · refine JD_pass (i := 5) rfl (by kernel_rfl) (by kernel_rfl) (by kernel_rfl) rfl rfl h7 rfl ?_
    refine JD_pass (i := 6) rfl (by kernel_rfl) (by kernel_rfl) (by kernel_rfl) rfl rfl h7 rfl ?_
    refine JD_pass (i := 7) rfl (by kernel_rfl) (by kernel_rfl) (by kernel_rfl) rfl rfl h7 rfl ?_
    refine JD_pass (i := 8) rfl (by kernel_rfl) (by kernel_rfl) (by kernel_rfl) rfl rfl h7 rfl ?_
    refine JD_take (i := 9) hp2 rfl (by kernel_rfl) (by kernel_rfl) (by kernel_rfl) (wants_none rfl) rfl (ex_pick_true rfl h7 rfl) ?_
    refine JD_take (i := 10) hp2 rfl (by kernel_rfl) (by kernel_rfl) (by kernel_rfl) (wants_none rfl) rfl (ex_move rfl) ?_
    refine JD_pass (i := 11) rfl (by kernel_rfl) (by kernel_rfl) (by kernel_rfl) rfl rfl rfl rfl ?_
    refine JD_pass (i := 12) rfl (by kernel_rfl) (by kernel_rfl) (by kernel_rfl) rfl rfl rfl rfl ?_
    refine JD_pass (i := 13) rfl (by kernel_rfl) (by kernel_rfl) (by kernel_rfl) rfl rfl rfl rfl ?_
    refine JD_pass (i := 14) rfl (by kernel_rfl) (by kernel_rfl) (by kernel_rfl) rfl rfl rfl rfl ?_
    refine JD_pass (i := 15) rfl (by kernel_rfl) (by kernel_rfl) (by kernel_rfl) rfl rfl rfl rfl ?_
    refine JD_pass (i := 16) rfl (by kernel_rfl) (by kernel_rfl) (by kernel_rfl) rfl rfl rfl rfl ?_
    refine JD_pass (i := 17) rfl (by kernel_rfl) (by kernel_rfl) (by kernel_rfl) rfl rfl rfl rfl ?_
    refine JD_pass (i := 18) rfl (by kernel_rfl) (by kernel_rfl) (by kernel_rfl) rfl rfl rfl rfl ?_
    refine JD_pass (i := 19) rfl (by kernel_rfl) (by kernel_rfl) (by kernel_rfl) rfl rfl rfl rfl ?_
    refine JD_take (i := 20) hp2 rfl (by kernel_rfl) (by kernel_rfl) (by kernel_rfl) (wants_none rfl) rfl (ex_pick_true rfl rfl rfl) ?_
    refine JD_done (by kernel_rfl) ?_
    refine N_then ?_
    refine J_if_true rfl rfl ?_
    refine J_seq ?_
    refine J_region ?_
    refine JL_q (wants_none rfl) rfl (ex_assign rfl) ?_
    refine JL_nil ?_
    refine N_then ?_
    refine J_ret ?_
    refine N_then_ret ?_
    exact N_ret1 rfl (rv_tmp rfl) (fun w hh => ⟨(), rfl, hh.sel [] rfl⟩)
  · refine JD_take (i := 5) hp2 rfl (by kernel_rfl) (by kernel_rfl) (by kernel_rfl) (wants_some rfl rfl rfl h7) rfl (ex_fieldAddr fi_26_1 rfl rfl) ?_
    refine JD_take (i := 6) hp2 rfl (by kernel_rfl) (by kernel_rfl) (by kernel_rfl) (wants_some rfl rfl rfl h7) rfl (ex_load_bx 0 ti_2 rfl rfl rfl) ?_
    refine JD_bnd fun r8 hr9 => ?_
    refine JD_one (i := 7) (by kernel_rfl) ?_
    refine JO_call rfl (wants_some rfl rfl rfl h7) rfl Try.call22 rfl (Ca_of0 fun w hh => c_impl_within _ w (fun _ hk => hk.elim) _ _ _ _ hr9) (fun _ => ?_)
    refine JD_take (i := 8) hp2 rfl (by kernel_rfl) (by kernel_rfl) (by kernel_rfl) (wants_some rfl rfl rfl h7) rfl (ex_not rfl) ?_
    refine JD_take (i := 9) hp2 rfl (by kernel_rfl) (by kernel_rfl) (by kernel_rfl) (wants_none rfl) rfl (ex_pick_false rfl h7 rfl) ?_
    refine JD_take (i := 10) hp2 rfl (by kernel_rfl) (by kernel_rfl) (by kernel_rfl) (wants_none rfl) rfl (ex_move rfl) ?_
    refine JD_cond (fun h10 => ?_) (fun h10 => ?_)
    · refine JD_pass (i := 11) rfl (by kernel_rfl) (by kernel_rfl) (by kernel_rfl) rfl rfl h10 rfl ?_
      refine JD_pass (i := 12) rfl (by kernel_rfl) (by kernel_rfl) (by kernel_rfl) rfl rfl h10 rfl ?_
      refine JD_pass (i := 13) rfl (by kernel_rfl) (by kernel_rfl) (by kernel_rfl) rfl rfl h10 rfl ?_
      refine JD_pass (i := 14) rfl (by kernel_rfl) (by kernel_rfl) (by kernel_rfl) rfl rfl h10 rfl ?_
      refine JD_pass (i := 15) rfl (by kernel_rfl) (by kernel_rfl) (by kernel_rfl) rfl rfl h10 rfl ?_
      refine JD_pass (i := 16) rfl (by kernel_rfl) (by kernel_rfl) (by kernel_rfl) rfl rfl h10 rfl ?_
      refine JD_pass (i := 17) rfl (by kernel_rfl) (by kernel_rfl) (by kernel_rfl) rfl rfl h10 rfl ?_
      refine JD_pass (i := 18) rfl (by kernel_rfl) (by kernel_rfl) (by kernel_rfl) rfl rfl h10 rfl ?_
      refine JD_pass (i := 19) rfl (by kernel_rfl) (by kernel_rfl) (by kernel_rfl) rfl rfl h10 rfl ?_
      refine JD_take (i := 20) hp2 rfl (by kernel_rfl) (by kernel_rfl) (by kernel_rfl) (wants_none rfl) rfl (ex_pick_true rfl h10 rfl) ?_
      refine JD_done (by kernel_rfl) ?_
      refine N_then ?_
      refine J_if_true rfl rfl ?_
      refine J_seq ?_
      refine J_region ?_
      refine JL_q (wants_none rfl) rfl (ex_assign rfl) ?_
      refine JL_nil ?_
      refine N_then ?_
      refine J_ret ?_
      refine N_then_ret ?_
      exact N_ret1 rfl (rv_tmp rfl) (fun w hh => ⟨(), rfl, hh.sel [] rfl⟩)
    · refine JD_take (i := 11) hp2 rfl (by kernel_rfl) (by kernel_rfl) (by kernel_rfl) (wants_some rfl rfl rfl h10) rfl (ex_fieldAddr fi_26_2 rfl rfl) ?_
      refine JD_take (i := 12) hp2 rfl (by kernel_rfl) (by kernel_rfl) (by kernel_rfl) (wants_some rfl rfl rfl h10) rfl (ex_load_bx 0 ti_24 rfl rfl rfl) ?_
      refine JD_take (i := 14) hp2 rfl (by kernel_rfl) (by kernel_rfl) (by kernel_rfl) (wants_some rfl rfl rfl h10) rfl (ex_fieldAddr fi_26_1 rfl rfl) ?_
      refine JD_take (i := 15) hp2 rfl (by kernel_rfl) (by kernel_rfl) (by kernel_rfl) (wants_some rfl rfl rfl h10) rfl (ex_load_bx 0 ti_2 rfl rfl rfl) ?_
      refine JD_take (i := 16) hp2 rfl (by kernel_rfl) (by kernel_rfl) (by kernel_rfl) (wants_some rfl rfl rfl h10) rfl (ex_fieldAddr fi_26_0 rfl rfl) ?_
      refine JD_take (i := 17) hp2 rfl (by kernel_rfl) (by kernel_rfl) (by kernel_rfl) (wants_some rfl rfl rfl h10) rfl (ex_load_bx 0 ti_2 rfl rfl rfl) ?_
      refine JD_take (i := 18) hp2 rfl (by kernel_rfl) (by kernel_rfl) (by kernel_rfl) (wants_some rfl rfl rfl h10) rfl (ex_mul rfl rfl) ?_
      refine JD_bnd fun r11 hr12 => ?_
      refine JD_one (i := 13) (by kernel_rfl) ?_
      refine JO_call rfl (wants_some rfl rfl rfl h10) rfl Try.call23 rfl (Ca_of0 fun w hh => c_impl_size_impl_Rule _ w (fun _ hk => hk.elim) _ _ (hh.rd0 1 rfl) _ hr12) (fun _ => ?_)
      refine JD_take (i := 19) hp2 rfl (by kernel_rfl) (by kernel_rfl) (by kernel_rfl) (wants_some rfl rfl rfl h10) rfl (ex_neq rfl rfl) ?_
      refine JD_take (i := 20) hp2 rfl (by kernel_rfl) (by kernel_rfl) (by kernel_rfl) (wants_none rfl) rfl (ex_pick_false rfl h10 rfl) ?_
      refine JD_done (by kernel_rfl) ?_
      refine N_then ?_
      refine J_if rfl (fun h13 => ?_) (fun h13 => ?_)
      · refine J_seq ?_
        refine J_region ?_
        refine JL_q (wants_none rfl) rfl (ex_assign rfl) ?_
        refine JL_nil ?_
        refine N_then ?_
        refine J_ret ?_
        refine N_then_ret ?_
        exact N_ret1 rfl (rv_tmp rfl) (fun w hh => ⟨(), rfl, hh.sel [] rfl⟩)
      · refine J_skip ?_
        refine N_then ?_
        refine J_seq ?_
        refine J_region ?_
        refine JL_q (wants_none rfl) rfl (ex_fieldAddr fi_26_2 rfl rfl) ?_
        refine JL_q (wants_none rfl) rfl (ex_load_bx 0 ti_24 rfl rfl rfl) ?_
        refine JL_q (wants_none rfl) rfl (ex_makeFunc rfl) ?_
        refine JL_bnd fun r14 hr15 => ?_
        refine JL_call (wants_none rfl) rfl Try.call24 rfl (Ca_of0 fun w hh => c_slices_ContainsFunc_Simpl_Rule_impl_Rule _ w (fun _ hk => hk.elim) _ _ (hh.rd0 1 rfl) _ _ (Clo.mk (caps := [.pointer (some ⟨b1, 0, none⟩)]) Try.call25 (fun w_ hb_ v_ x_ r_ hrd_ hr_ => c_impl_ValidMachine_1 nowhere w_ (fun _ hk => hk.elim) v_ x_ hrd_ _ _ ((hh.bx_pa 0 rfl (GMachine.rdmk (Rd.mk_int _ _ _) (Rd.mk_int _ _ _) (hh.rd0 1 rfl)) rfl).later hb_) _ hr_)) _ hr15) (fun _ => ?_)
        refine JL_q (wants_none rfl) rfl (ex_not rfl) ?_
        refine JL_q (wants_none rfl) rfl (ex_assign rfl) ?_
        refine JL_nil ?_
        refine N_then ?_
        refine J_ret ?_
        exact N_ret1 rfl (rv_tmp rfl) (fun w hh => ⟨(), rfl, hh.sel [] rfl⟩)

set_option maxHeartbeats 40000000 in
theorem c_impl_PruneMachine_1 (A : Nat → Prop) (w : World) (hA : ∀ k, A k → k < w.heap.size) (p0 : Int) (v1_ : Value) (p1 : GMachine) (hp1 : RdA A w.heap.size w v1_ p1) (r : (List GRule)) (hr : F_impl_PruneMachine_1 p0 p1 = some r) :
    Con Try.prog 16 [.int .i64 p0, v1_] A w (fun x_ : Value => x_) (fun x_ => [.rd x_ r]) := by
  refine Con_of (v := fun (r : (List GRule)) (x_ : Value) => x_) (fs := fun r x_ => [.rd x_ r]) Try.func16 rfl Try.ntmps16 rfl ((SH.start hA).start_pa' rfl hp1) rfl ?_ hr
  unfold F_impl_PruneMachine_1
  refine J_seq ?_
  refine J_region ?_
  refine JL_q (wants_none rfl) rfl (ex_assign rfl) ?_
  refine JL_nil ?_
  refine N_then ?_
  refine J_seq ?_
  refine J_region ?_
  refine JL_st (wants_none rfl) rfl (st_field_pa 0 (GMachine.at_Rules _) fi_26_2 rfl rfl rfl) (fun q1 => ?_)
  refine JL_st (wants_none rfl) rfl (st_load_pa_o 0 (opens_sl _) ti_24 rfl rfl) (fun v2 => ?_)
  refine JL_q (wants_none rfl) rfl (ex_move rfl) ?_
  refine JL_st (wants_none rfl) rfl (st_field_pa 2 (GMachine.at_Symbols _) fi_26_0 rfl rfl rfl) (fun q3 => ?_)
  refine JL_st (wants_none rfl) rfl (st_load_pa_o 0 (opens_int _) ti_2 rfl rfl) (fun _ => ?_)
  refine JL_q (wants_none rfl) rfl (ex_mul rfl rfl) ?_
  refine JL_q (wants_none rfl) rfl (ex_move rfl) ?_
  refine JL_q (wants_none rfl) rfl (ex_add rfl rfl) ?_
  refine JL_st (wants_none rfl) rfl (st_field_pa 3 (GMachine.at_Symbols _) fi_26_0 rfl rfl rfl) (fun q5 => ?_)
  refine JL_st (wants_none rfl) rfl (st_load_pa_o 0 (opens_int _) ti_2 rfl rfl) (fun _ => ?_)
  refine JL_q (wants_none rfl) rfl (ex_mul rfl rfl) ?_
  refine JL_bnd fun z7 hz8 => ?_
  refine JL_st (wants_none rfl) rfl (st_slice 2 Try.underlying24 ti_49 rfl rfl rfl rfl hz8) (fun v9 => ?_)
  refine JL_q (wants_none rfl) rfl (ex_assign rfl) ?_
  refine JL_nil ?_
  refine N_then ?_
  refine J_ret ?_
  exact N_ret1 rfl (rv_tmp rfl) (fun w hh => ⟨v9, rfl, hh.sel [0] rfl⟩)

set_option maxHeartbeats 40000000 in
theorem c_impl_size_int64 (A : Nat → Prop) (w : World) (hA : ∀ k, A k → k < w.heap.size) (v0_ : Value) (p0 : (List Int)) (hp0 : Rd A w v0_ p0) (r : Int) (hr : F_impl_size_int64 p0 = some r) :
    Con Try.prog 20 [v0_] A w (fun x_ : Unit => .int .i64 r) (fun x_ => []) := by
  refine Con_of (v := fun (r : Int) (x_ : Unit) => .int .i64 r) (fs := fun r x_ => []) Try.func20 rfl Try.ntmps20 rfl ((SH.start hA).start_rd rfl hp0) rfl ?_ hr
  unfold F_impl_size_int64
  refine J_seq ?_
  refine J_region ?_
  refine JL_q (wants_none rfl) rfl (ex_assign rfl) ?_
  refine JL_nil ?_
  refine N_then ?_
  refine J_seq ?_
  refine J_region ?_
  refine JL_q (wants_none rfl) rfl (ex_move rfl) ?_
  refine JL_q (wants_none rfl) rfl (ex_len_rd 0 Try.underlying27 rfl rfl) ?_
  refine JL_q (wants_none rfl) rfl (ex_assign rfl) ?_
  refine JL_nil ?_
  refine N_then ?_
  refine J_ret ?_
  exact N_ret1 rfl (rv_tmp rfl) (fun w hh => ⟨(), rfl, hh.sel [] rfl⟩)

set_option maxHeartbeats 40000000 in
theorem c_cmp_isNaN_int64 (A : Nat → Prop) (w : World) (hA : ∀ k, A k → k < w.heap.size) (p0 : Int) (r : Bool) (hr : F_cmp_isNaN_int64 p0 = some r) :
    Con Try.prog 50 [.int .i64 p0] A w (fun x_ : Unit => .bool r) (fun x_ => []) := by
  refine Con_of (v := fun (r : Bool) (x_ : Unit) => .bool r) (fs := fun r x_ => []) Try.func50 rfl Try.ntmps50 rfl (SH.start hA) rfl ?_ hr
  unfold F_cmp_isNaN_int64
  refine J_seq ?_
  refine J_region ?_
  refine JL_q (wants_none rfl) rfl (ex_assign rfl) ?_
  refine JL_nil ?_
  refine N_then ?_
  refine J_seq ?_
  refine J_region ?_
  refine JL_q (wants_none rfl) rfl (ex_move rfl) ?_
  refine JL_q (wants_none rfl) rfl (ex_move rfl) ?_
  refine JL_q (wants_none rfl) rfl (ex_neq rfl rfl) ?_
  refine JL_q (wants_none rfl) rfl (ex_assign rfl) ?_
  refine JL_nil ?_
  refine N_then ?_
  refine J_ret ?_
  exact N_ret1 rfl (rv_tmp rfl) (fun w hh => ⟨(), rfl, hh.sel [] rfl⟩)

set_option maxHeartbeats 40000000 in
theorem c_cmp_Less_int64 (A : Nat → Prop) (w : World) (hA : ∀ k, A k → k < w.heap.size) (p0 : Int) (p1 : Int) (r : Bool) (hr : F_cmp_Less_int64 p0 p1 = some r) :
    Con Try.prog 39 [.int .i64 p0, .int .i64 p1] A w (fun x_ : Unit => .bool r) (fun x_ => []) := by
  refine Con_of (v := fun (r : Bool) (x_ : Unit) => .bool r) (fs := fun r x_ => []) Try.func39 rfl Try.ntmps39 rfl (SH.start hA) rfl ?_ hr
  unfold F_cmp_Less_int64
  refine J_seq ?_
  refine J_region ?_
  refine JL_q (wants_none rfl) rfl (ex_assign rfl) ?_
  refine JL_nil ?_
  refine N_then ?_
  refine J_seq ?_
  refine J_region ?_
  refine JL_q (wants_none rfl) rfl (ex_move rfl) ?_
  refine JL_bnd fun r1 hr2 => ?_
  refine JL_call (wants_none rfl) rfl Try.call50 rfl (Ca_of0 fun w hh => c_cmp_isNaN_int64 _ w (fun _ hk => hk.elim) _ _ hr2) (fun _ => ?_)
  refine JL_q (wants_none rfl) rfl (ex_move rfl) ?_
  refine JL_cond (fun h3 => ?_) (fun h3 => ?_)
  · refine JL_q (wants_some rfl rfl rfl h3) rfl (ex_move rfl) ?_
    refine JL_bnd fun r4 hr5 => ?_
    refine JL_call (wants_some rfl rfl rfl h3) rfl Try.call50 rfl (Ca_of0 fun w hh => c_cmp_isNaN_int64 _ w (fun _ hk => hk.elim) _ _ hr5) (fun _ => ?_)
    refine JL_q (wants_some rfl rfl rfl h3) rfl (ex_not rfl) ?_
    refine JL_q (wants_none rfl) rfl (ex_pick_true rfl h3 rfl) ?_
    refine JL_q (wants_none rfl) rfl (ex_move rfl) ?_
    refine JL_cond (fun h6 => ?_) (fun h6 => ?_)
    · refine JL_passed rfl rfl rfl h6 ?_
      refine JL_passed rfl rfl rfl h6 ?_
      refine JL_passed rfl rfl rfl h6 ?_
      refine JL_q (wants_none rfl) rfl (ex_pick_true rfl h6 rfl) ?_
      refine JL_q (wants_none rfl) rfl (ex_assign rfl) ?_
      refine JL_nil ?_
      refine N_then ?_
      refine J_ret ?_
      exact N_ret1 rfl (rv_tmp rfl) (fun w hh => ⟨(), rfl, hh.sel [] rfl⟩)
    · refine JL_q (wants_some rfl rfl rfl h6) rfl (ex_move rfl) ?_
      refine JL_q (wants_some rfl rfl rfl h6) rfl (ex_move rfl) ?_
      refine JL_q (wants_some rfl rfl rfl h6) rfl (ex_lss rfl rfl) ?_
      refine JL_q (wants_none rfl) rfl (ex_pick_false rfl h6 rfl) ?_
      refine JL_q (wants_none rfl) rfl (ex_assign rfl) ?_
      refine JL_nil ?_
      refine N_then ?_
      refine J_ret ?_
      exact N_ret1 rfl (rv_tmp rfl) (fun w hh => ⟨(), rfl, hh.sel [] rfl⟩)
  · refine JL_passed rfl rfl rfl h3 ?_
    refine JL_passed rfl rfl rfl h3 ?_
    refine JL_passed rfl rfl rfl h3 ?_
    refine JL_q (wants_none rfl) rfl (ex_pick_false rfl h3 rfl) ?_
    refine JL_q (wants_none rfl) rfl (ex_move rfl) ?_
    refine JL_q (wants_some rfl rfl rfl rfl) rfl (ex_move rfl) ?_
    refine JL_q (wants_some rfl rfl rfl rfl) rfl (ex_move rfl) ?_
    refine JL_q (wants_some rfl rfl rfl rfl) rfl (ex_lss rfl rfl) ?_
    refine JL_q (wants_none rfl) rfl (ex_pick_false rfl rfl rfl) ?_
    refine JL_q (wants_none rfl) rfl (ex_assign rfl) ?_
    refine JL_nil ?_
    refine N_then ?_
    refine J_ret ?_
    exact N_ret1 rfl (rv_tmp rfl) (fun w hh => ⟨(), rfl, hh.sel [] rfl⟩)

set_option maxHeartbeats 40000000 in
theorem c_slices_isNaN_int64 (A : Nat → Prop) (w : World) (hA : ∀ k, A k → k < w.heap.size) (p0 : Int) (r : Bool) (hr : F_slices_isNaN_int64 p0 = some r) :
    Con Try.prog 40 [.int .i64 p0] A w (fun x_ : Unit => .bool r) (fun x_ => []) := by
  refine Con_of (v := fun (r : Bool) (x_ : Unit) => .bool r) (fs := fun r x_ => []) Try.func40 rfl Try.ntmps40 rfl (SH.start hA) rfl ?_ hr
  unfold F_slices_isNaN_int64
  refine J_seq ?_
  refine J_region ?_
  refine JL_q (wants_none rfl) rfl (ex_assign rfl) ?_
  refine JL_nil ?_
  refine N_then ?_
  refine J_seq ?_
  refine J_region ?_
  refine JL_q (wants_none rfl) rfl (ex_move rfl) ?_
  refine JL_q (wants_none rfl) rfl (ex_move rfl) ?_
  refine JL_q (wants_none rfl) rfl (ex_neq rfl rfl) ?_
  refine JL_q (wants_none rfl) rfl (ex_assign rfl) ?_
  refine JL_nil ?_
  refine N_then ?_
  refine J_ret ?_
  exact N_ret1 rfl (rv_tmp rfl) (fun w hh => ⟨(), rfl, hh.sel [] rfl⟩)

set_option maxHeartbeats 40000000 in
theorem c_slices_BinarySearch_Sint64_int64 (A : Nat → Prop) (w : World) (hA : ∀ k, A k → k < w.heap.size) (v0_ : Value) (p0 : (List Int)) (hp0 : Rd A w v0_ p0) (p1 : Int) (r : Int × Bool) (hr : F_slices_BinarySearch_Sint64_int64 p0 p1 = some r) :
    Con Try.prog 21 [v0_, .int .i64 p1] A w (fun x_ : Unit => .tuple #[.int .i64 r.1, .bool r.2]) (fun x_ => []) := by
  refine Con_of (v := fun (r : Int × Bool) (x_ : Unit) => .tuple #[.int .i64 r.1, .bool r.2]) (fs := fun r x_ => []) Try.func21 rfl Try.ntmps21 rfl ((SH.start hA).start_rd rfl hp0) rfl ?_ hr
  unfold F_slices_BinarySearch_Sint64_int64
  refine J_seq ?_
  refine J_region ?_
  refine JL_q (wants_none rfl) rfl (ex_assign rfl) ?_
  refine JL_q (wants_none rfl) rfl (ex_assign rfl) ?_
  refine JL_nil ?_
  refine N_then ?_
  refine J_seq ?_
  refine J_region ?_
  refine JL_q (wants_none rfl) rfl (ex_move rfl) ?_
  refine JL_q (wants_none rfl) rfl (ex_len_rd 0 Try.underlying27 rfl rfl) ?_
  refine JL_q (wants_none rfl) rfl (ex_assign rfl) ?_
  refine JL_nil ?_
  refine N_then ?_
  refine J_seq ?_
  refine J_region ?_
  refine JL_q (wants_none rfl) rfl (ex_move rfl) ?_
  refine JL_q (wants_none rfl) rfl (ex_assign rfl) ?_
  refine JL_q (wants_none rfl) rfl (ex_assign rfl) ?_
  refine JL_nil ?_
  refine N_then ?_
  refine J_seq ?_
  refine J_loop' (S := Int × Int) (G := Unit) (F_slices_BinarySearch_Sint64_int64_L1 p0 p1) (fun s1 _ => [(0, v0_), (1, .int .i64 p1), (6, .int .i64 (p0.length : Int)), (7, .int .i64 s1.1), (8, .int .i64 s1.2)]) (fun s1 _ => [.rd v0_ p0]) (0, (p0.length : Int)) () ⟨rfl, rfl, rfl, rfl, rfl, trivial⟩ [0] rfl rfl (fun s1 g2 => ?_) (fun s1 g2 => ?_)
  · unfold F_slices_BinarySearch_Sint64_int64_L1
    refine J_seq ?_
    refine J_seq ?_
    refine J_region ?_
    refine JL_q (wants_none rfl) rfl (ex_move rfl) ?_
    refine JL_q (wants_none rfl) rfl (ex_move rfl) ?_
    refine JL_q (wants_none rfl) rfl (ex_lss rfl rfl) ?_
    refine JL_nil ?_
    refine N_then ?_
    refine J_if rfl (fun h3 => ?_) (fun h3 => ?_)
    · refine J_skip ?_
      refine N_then ?_
      refine J_block ?_
      refine J_seq ?_
      refine J_region ?_
      refine JL_q (wants_none rfl) rfl (ex_move rfl) ?_
      refine JL_q (wants_none rfl) rfl (ex_move rfl) ?_
      refine JL_q (wants_none rfl) rfl (ex_add rfl rfl) ?_
      refine JL_q (wants_none rfl) rfl (ex_conv_ik Try.underlying3 Try.underlying74 rfl) ?_
      refine JL_q (wants_none rfl) rfl (ex_shrk rfl rfl (by decide)) ?_
      refine JL_q (wants_none rfl) rfl (ex_conv_i64 Try.underlying74 Try.underlying3 rfl) ?_
      refine JL_q (wants_none rfl) rfl (ex_assign rfl) ?_
      refine JL_nil ?_
      refine N_then ?_
      refine J_seq ?_
      refine J_region ?_
      refine JL_q (wants_none rfl) rfl (ex_move rfl) ?_
      refine JL_q (wants_none rfl) rfl (ex_move rfl) ?_
      refine JL_bnd fun y4 hy5 => ?_
      refine JL_st (wants_none rfl) rfl (st_index 0 Try.underlying27 ti_2 rfl rfl rfl hy5) (fun q6 => ?_)
      refine JL_st (wants_none rfl) rfl (st_load_pt_o 0 (opens_int _) ti_2 rfl rfl) (fun _ => ?_)
      refine JL_q (wants_none rfl) rfl (ex_move rfl) ?_
      refine JL_bnd fun r8 hr9 => ?_
      refine JL_call (wants_none rfl) rfl Try.call39 rfl (Ca_of0 fun w hh => c_cmp_Less_int64 _ w (fun _ hk => hk.elim) _ _ _ hr9) (fun _ => ?_)
      refine JL_nil ?_
      refine N_then ?_
      refine J_if rfl (fun h10 => ?_) (fun h10 => ?_)
      · refine J_region ?_
        refine JL_q (wants_none rfl) rfl (ex_move rfl) ?_
        refine JL_q (wants_none rfl) rfl (ex_add rfl rfl) ?_
        refine JL_q (wants_none rfl) rfl (ex_assign rfl) ?_
        refine JL_nil ?_
        refine N_block ?_
        exact N_next' () ⟨rfl, rfl, rfl, rfl, rfl, trivial⟩ [1] rfl rfl
      · refine J_region ?_
        refine JL_q (wants_none rfl) rfl (ex_move rfl) ?_
        refine JL_q (wants_none rfl) rfl (ex_assign rfl) ?_
        refine JL_nil ?_
        refine N_block ?_
        exact N_next' () ⟨rfl, rfl, rfl, rfl, rfl, trivial⟩ [1] rfl rfl
    · refine J_exit ?_
      refine N_then_exit ?_
      exact N_break' () ⟨rfl, rfl, rfl, rfl, rfl, trivial⟩ [0] rfl rfl
  · refine N_then ?_
    refine J_seq ?_
    refine J_region ?_
    refine JL_q (wants_none rfl) rfl (ex_move rfl) ?_
    refine JL_q (wants_none rfl) rfl (ex_move rfl) ?_
    refine JL_q (wants_none rfl) rfl (ex_move rfl) ?_
    refine JL_q (wants_none rfl) rfl (ex_lss rfl rfl) ?_
    refine JL_q (wants_none rfl) rfl (ex_move rfl) ?_
    refine JL_cond (fun h11 => ?_) (fun h11 => ?_)
    · refine JL_q (wants_some rfl rfl rfl h11) rfl (ex_move rfl) ?_
      refine JL_q (wants_some rfl rfl rfl h11) rfl (ex_move rfl) ?_
      refine JL_bnd fun y12 hy13 => ?_
      refine JL_st (wants_some rfl rfl rfl h11) rfl (st_index 0 Try.underlying27 ti_2 rfl rfl rfl hy13) (fun q14 => ?_)
      refine JL_st (wants_some rfl rfl rfl h11) rfl (st_load_pt_o 0 (opens_int _) ti_2 rfl rfl) (fun _ => ?_)
      refine JL_q (wants_some rfl rfl rfl h11) rfl (ex_move rfl) ?_
      refine JL_q (wants_some rfl rfl rfl h11) rfl (ex_eql rfl rfl) ?_
      refine JL_q (wants_some rfl rfl rfl h11) rfl (ex_move rfl) ?_
      refine JL_cond (fun h16 => ?_) (fun h16 => ?_)
      · refine JL_passed rfl rfl rfl h16 ?_
        refine JL_passed rfl rfl rfl h16 ?_
        refine JL_passed rfl rfl rfl h16 ?_
        refine JL_passed rfl rfl rfl h16 ?_
        refine JL_passed rfl rfl rfl h16 ?_
        refine JL_passed rfl rfl rfl h16 ?_
        refine JL_passed_undef rfl rfl rfl ?_
        refine JL_passed_undef rfl rfl rfl ?_
        refine JL_passed rfl rfl rfl h16 ?_
        refine JL_q (wants_some rfl rfl rfl h11) rfl (ex_pick_true rfl h16 rfl) ?_
        refine JL_q (wants_none rfl) rfl (ex_pick_true rfl h11 rfl) ?_
        refine JL_q (wants_none rfl) rfl (ex_assign rfl) ?_
        refine JL_q (wants_none rfl) rfl (ex_assign rfl) ?_
        refine JL_nil ?_
        refine N_then ?_
        refine J_ret ?_
        exact N_ret2 rfl (rv_tmp rfl) (rv_tmp rfl) (fun w hh => ⟨(), rfl, hh.sel [] rfl⟩)
      · refine JL_q (wants_some rfl rfl rfl h16) rfl (ex_move rfl) ?_
        refine JL_q (wants_some rfl rfl rfl h16) rfl (ex_move rfl) ?_
        refine JL_bnd fun y17 hy18 => ?_
        refine JL_st (wants_some rfl rfl rfl h16) rfl (st_index 1 Try.underlying27 ti_2 rfl rfl rfl hy18) (fun q19 => ?_)
        refine JL_st (wants_some rfl rfl rfl h16) rfl (st_load_pt_o 0 (opens_int _) ti_2 rfl rfl) (fun _ => ?_)
        refine JL_bnd fun r21 hr22 => ?_
        refine JL_call (wants_some rfl rfl rfl h16) rfl Try.call40 rfl (Ca_of0 fun w hh => c_slices_isNaN_int64 _ w (fun _ hk => hk.elim) _ _ hr22) (fun _ => ?_)
        refine JL_q (wants_some rfl rfl rfl h16) rfl (ex_move rfl) ?_
        refine JL_cond (fun h23 => ?_) (fun h23 => ?_)
        · refine JL_q (wants_some rfl rfl rfl h23) rfl (ex_move rfl) ?_
          refine JL_bnd fun r24 hr25 => ?_
          refine JL_call (wants_some rfl rfl rfl h23) rfl Try.call40 rfl (Ca_of0 fun w hh => c_slices_isNaN_int64 _ w (fun _ hk => hk.elim) _ _ hr25) (fun _ => ?_)
          refine JL_q (wants_some rfl rfl rfl h16) rfl (ex_pick_true rfl h23 rfl) ?_
          refine JL_q (wants_some rfl rfl rfl h11) rfl (ex_pick_false rfl h16 rfl) ?_
          refine JL_q (wants_none rfl) rfl (ex_pick_true rfl h11 rfl) ?_
          refine JL_q (wants_none rfl) rfl (ex_assign rfl) ?_
          refine JL_q (wants_none rfl) rfl (ex_assign rfl) ?_
          refine JL_nil ?_
          refine N_then ?_
          refine J_ret ?_
          exact N_ret2 rfl (rv_tmp rfl) (rv_tmp rfl) (fun w hh => ⟨(), rfl, hh.sel [] rfl⟩)
        · refine JL_passed rfl rfl rfl h23 ?_
          refine JL_passed rfl rfl rfl h23 ?_
          refine JL_q (wants_some rfl rfl rfl h16) rfl (ex_pick_false rfl h23 rfl) ?_
          refine JL_q (wants_some rfl rfl rfl h11) rfl (ex_pick_false rfl h16 rfl) ?_
          refine JL_q (wants_none rfl) rfl (ex_pick_true rfl h11 rfl) ?_
          refine JL_q (wants_none rfl) rfl (ex_assign rfl) ?_
          refine JL_q (wants_none rfl) rfl (ex_assign rfl) ?_
          refine JL_nil ?_
          refine N_then ?_
          refine J_ret ?_
          exact N_ret2 rfl (rv_tmp rfl) (rv_tmp rfl) (fun w hh => ⟨(), rfl, hh.sel [] rfl⟩)
    · refine JL_passed rfl rfl rfl h11 ?_
      refine JL_passed rfl rfl rfl h11 ?_
      refine JL_passed rfl rfl rfl h11 ?_
      refine JL_passed rfl rfl rfl h11 ?_
      refine JL_passed rfl rfl rfl h11 ?_
      refine JL_passed rfl rfl rfl h11 ?_
      refine JL_passed rfl rfl rfl h11 ?_
      refine JL_passed_undef rfl rfl rfl ?_
      refine JL_passed_undef rfl rfl rfl ?_
      refine JL_passed_undef rfl rfl rfl ?_
      refine JL_passed_undef rfl rfl rfl ?_
      refine JL_passed_undef rfl rfl rfl ?_
      refine JL_passed_undef rfl rfl rfl ?_
      refine JL_passed_undef rfl rfl rfl ?_
      refine JL_passed_undef rfl rfl rfl ?_
      refine JL_passed_undef rfl rfl rfl ?_
      refine JL_passed rfl rfl rfl h11 ?_
      refine JL_q (wants_none rfl) rfl (ex_pick_false rfl h11 rfl) ?_
      refine JL_q (wants_none rfl) rfl (ex_assign rfl) ?_
      refine JL_q (wants_none rfl) rfl (ex_assign rfl) ?_
      refine JL_nil ?_
      refine N_then ?_
      refine J_ret ?_
      exact N_ret2 rfl (rv_tmp rfl) (rv_tmp rfl) (fun w hh => ⟨(), rfl, hh.sel [] rfl⟩)

set_option maxHeartbeats 40000000 in
theorem c_impl_reachable_1_c0_ind : ∀ (k_ : Nat) (w : World) (b1_ : Nat) (p1 : Int) (b2_ : Nat) (p2 : (List Bool)) (v2_0 : Value) (b3_ : Nat) (b4_ : Nat) (b5_ : Nat) (b6_ : Nat) (p6 : GMachine) (v6_2 : Value) (B_ : List Nat) (hB_ : Ctx.owns [.bx b1_ 2 [.int .i64 p1], .bx b2_ 71 [v2_0], .ow 4 v2_0 p2, .bx b3_ 51 [.func (.func 18) #[] #[.pointer (some ⟨b5_, 0, none⟩)]], .bx b4_ 72 [.func (.func 37) #[] #[.pointer (some ⟨b1_, 0, none⟩), .pointer (some ⟨b2_, 0, none⟩), .pointer (some ⟨b3_, 0, none⟩), .pointer (some ⟨b4_, 0, none⟩)]], .bx b5_ 46 [.func (.func 16) #[] #[.pointer (some ⟨b6_, 0, none⟩)]], .bx b6_ 26 [.int .i64 p6.Symbols, .int .i64 p6.States, v6_2]] = B_) (hn_ : PHanded w [.bx b1_ 2 [.int .i64 p1], .bx b2_ 71 [v2_0], .ow 4 v2_0 p2, .bx b3_ 51 [.func (.func 18) #[] #[.pointer (some ⟨b5_, 0, none⟩)]], .bx b4_ 72 [.func (.func 37) #[] #[.pointer (some ⟨b1_, 0, none⟩), .pointer (some ⟨b2_, 0, none⟩), .pointer (some ⟨b3_, 0, none⟩), .pointer (some ⟨b4_, 0, none⟩)]], .bx b5_ 46 [.func (.func 16) #[] #[.pointer (some ⟨b6_, 0, none⟩)]], .bx b6_ 26 [.int .i64 p6.Symbols, .int .i64 p6.States, v6_2]]) (p0 : Int) (hp6_2 : Rd (fun k => k ∈ B_) w v6_2 p6.Rules) (r : (Unit) × ((List Bool))) (hr : fixN (fun (rec_ : (Int × Int × (List Bool) × GMachine) → Option ((Unit) × ((List Bool)))) (a_ : Int × Int × (List Bool) × GMachine) => F_impl_reachable_1_c0_step (fun p0 p1 p2 p6 => rec_ (p0, p1, p2, p6)) a_.1 a_.2.1 a_.2.2.1 a_.2.2.2) k_ (p0, p1, p2, p6) = some r),
    PtrCon Try.prog 37 [.int .i64 p0, .pointer (some ⟨b1_, 0, none⟩), .pointer (some ⟨b2_, 0, none⟩), .pointer (some ⟨b3_, 0, none⟩), .pointer (some ⟨b4_, 0, none⟩)] w B_ (fun x_ : Value => .tuple #[]) (fun x_ => [.bx b1_ 2 [.int .i64 p1], .bx b2_ 71 [x_], .ow 4 x_ r.2, .bx b3_ 51 [.func (.func 18) #[] #[.pointer (some ⟨b5_, 0, none⟩)]], .bx b4_ 72 [.func (.func 37) #[] #[.pointer (some ⟨b1_, 0, none⟩), .pointer (some ⟨b2_, 0, none⟩), .pointer (some ⟨b3_, 0, none⟩), .pointer (some ⟨b4_, 0, none⟩)]], .bx b5_ 46 [.func (.func 16) #[] #[.pointer (some ⟨b6_, 0, none⟩)]], .bx b6_ 26 [.int .i64 p6.Symbols, .int .i64 p6.States, v6_2]]) := by
  intro k_
  induction k_ with
  | zero => intro w b1_ p1 b2_ p2 v2_0 b3_ b4_ b5_ b6_ p6 v6_2 B_ hB_ hn_ p0 hp6_2 r hr; cases hr
  | succ k_ ih_ =>
  intro w b1_ p1 b2_ p2 v2_0 b3_ b4_ b5_ b6_ p6 v6_2 B_ hB_ hn_ p0 hp6_2 r hr
  replace hr : F_impl_reachable_1_c0_step (fun p0 p1 p2 p6 => fixN (fun (rec_ : (Int × Int × (List Bool) × GMachine) → Option ((Unit) × ((List Bool)))) (a_ : Int × Int × (List Bool) × GMachine) => F_impl_reachable_1_c0_step (fun p0 p1 p2 p6 => rec_ (p0, p1, p2, p6)) a_.1 a_.2.1 a_.2.2.1 a_.2.2.2) k_ (p0, p1, p2, p6)) p0 p1 p2 p6 = some r := hr
  refine PtrCon_of (v := fun (r : (Unit) × ((List Bool))) (x_ : Value) => .tuple #[]) (fs := fun r x_ => [.bx b1_ 2 [.int .i64 p1], .bx b2_ 71 [x_], .ow 4 x_ r.2, .bx b3_ 51 [.func (.func 18) #[] #[.pointer (some ⟨b5_, 0, none⟩)]], .bx b4_ 72 [.func (.func 37) #[] #[.pointer (some ⟨b1_, 0, none⟩), .pointer (some ⟨b2_, 0, none⟩), .pointer (some ⟨b3_, 0, none⟩), .pointer (some ⟨b4_, 0, none⟩)]], .bx b5_ 46 [.func (.func 16) #[] #[.pointer (some ⟨b6_, 0, none⟩)]], .bx b6_ 26 [.int .i64 p6.Symbols, .int .i64 p6.States, v6_2]]) Try.func37 rfl Try.ntmps37 rfl (show SH nowhere (bare w) w [.rd v6_2 p6.Rules, .bx b1_ 2 [.int .i64 p1], .bx b2_ 71 [v2_0], .ow 4 v2_0 p2, .bx b3_ 51 [.func (.func 18) #[] #[.pointer (some ⟨b5_, 0, none⟩)]], .bx b4_ 72 [.func (.func 37) #[] #[.pointer (some ⟨b1_, 0, none⟩), .pointer (some ⟨b2_, 0, none⟩), .pointer (some ⟨b3_, 0, none⟩), .pointer (some ⟨b4_, 0, none⟩)]], .bx b5_ 46 [.func (.func 16) #[] #[.pointer (some ⟨b6_, 0, none⟩)]], .bx b6_ 26 [.int .i64 p6.Symbols, .int .i64 p6.States, v6_2], .tkn (.int .i64 0) (0 : Int) (restL w B_), rest w B_] from ((SH.begin hB_ hn_).cons_apart hB_ hp6_2)) rfl ?_ hr
  unfold F_impl_reachable_1_c0_step
  refine J_seq ?_
  refine J_cut' (S' := Unit) (G' := Unit) (fun _ _ => [(0, .int .i64 p0), (2, .pointer (some ⟨b2_, 0, none⟩)), (3, .pointer (some ⟨b3_, 0, none⟩)), (4, .pointer (some ⟨b4_, 0, none⟩))]) (fun _ _ => [rest w B_, .ow 4 v2_0 p2, .bx b2_ 71 [v2_0], .rd v6_2 p6.Rules, .bx b6_ 26 [.int .i64 p6.Symbols, .int .i64 p6.States, v6_2], .bx b5_ 46 [.func (.func 16) #[] #[.pointer (some ⟨b6_, 0, none⟩)]], .bx b3_ 51 [.func (.func 18) #[] #[.pointer (some ⟨b5_, 0, none⟩)]], .bx b1_ 2 [.int .i64 p1], .bx b4_ 72 [.func (.func 37) #[] #[.pointer (some ⟨b1_, 0, none⟩), .pointer (some ⟨b2_, 0, none⟩), .pointer (some ⟨b3_, 0, none⟩), .pointer (some ⟨b4_, 0, none⟩)]], .tkn (.int .i64 0) (0 : Int) (restL w B_)]) ?_ (fun s1 g2 => ?_)
  · refine J_seq ?_
    refine J_region ?_
    refine JL_q (wants_none rfl) rfl (ex_move rfl) ?_
    refine JL_q (wants_none rfl) rfl (ex_load_bx 1 ti_2 rfl rfl rfl) ?_
    refine JL_q (wants_none rfl) rfl (ex_geq rfl rfl) ?_
    refine JL_q (wants_none rfl) rfl (ex_move rfl) ?_
    refine JL_cond (fun h3 => ?_) (fun h3 => ?_)
    · refine JL_passed rfl rfl rfl h3 ?_
      refine JL_passed rfl rfl rfl h3 ?_
      refine JL_passed rfl rfl rfl h3 ?_
      refine JL_passed rfl rfl rfl h3 ?_
      refine JL_q (wants_none rfl) rfl (ex_pick_true rfl h3 rfl) ?_
      refine JL_nil ?_
      refine N_then ?_
      refine J_if_true rfl rfl ?_
      refine J_ret ?_
      refine N_mid_ret ?_
      refine N_then_ret ?_
      exact N_ret0 (.inl rfl) rfl  (fun w hh => ⟨v2_0, rfl, hh.sel [1, 2, 3, 4, 5, 6, 7, 8, 9] rfl⟩)
    · refine JL_q (wants_some rfl rfl rfl h3) rfl (ex_load_bx 2 ti_71 rfl rfl rfl) ?_
      refine JL_q (wants_some rfl rfl rfl h3) rfl (ex_move rfl) ?_
      refine JL_bnd fun y4 hy5 => ?_
      refine JL_ow_open (v := v2_0) 3 rfl hy5 ?_; rintro b6 cap7 rfl
      refine JL_q (wants_some rfl rfl rfl h3) rfl (ex_index_ow 3 Try.underlying71 ti_4 rfl rfl rfl hy5) ?_
      refine JL_st (wants_some rfl rfl rfl h3) rfl (st_load_ow_o 3 (opens_bool _) ti_4 rfl rfl hy5) (fun _ => ?_)
      refine JL_q (wants_none rfl) rfl (ex_pick_false rfl h3 rfl) ?_
      refine JL_nil ?_
      refine N_then ?_
      refine J_if rfl (fun h9 => ?_) (fun h9 => ?_)
      · refine J_ret ?_
        refine N_mid_ret ?_
        refine N_then_ret ?_
        exact N_ret0 (.inl rfl) rfl  (fun w hh => ⟨(.slice (some ⟨b6, 0, none⟩) p2.length cap7), rfl, hh.sel [1, 2, 3, 4, 5, 6, 7, 8, 9] rfl⟩)
      · refine J_skip ?_
        exact N_meet' () ⟨rfl, rfl, rfl, rfl, trivial⟩ [9, 3, 2, 0, 7, 6, 4, 1, 5, 8] rfl rfl
  · refine N_then ?_
    refine J_seq ?_
    refine J_region ?_
    refine JL_q (wants_none rfl) rfl (ex_load_bx 2 ti_71 rfl rfl rfl) ?_
    refine JL_q (wants_none rfl) rfl (ex_move rfl) ?_
    refine JL_bnd fun y10 hy11 => ?_
    refine JL_ow_open (v := v2_0) 1 rfl hy11 ?_; rintro b12 cap13 rfl
    refine JL_q (wants_none rfl) rfl (ex_index_ow 1 Try.underlying71 ti_4 rfl rfl rfl hy11) ?_
    refine JL_sk (wants_none rfl) (sk_store_ow 1 ti_4 rfl rfl rfl hy11 (fun w hh => (Rd.mk_bool _ _ _))) ?_
    refine JL_nil ?_
    refine N_then ?_
    refine J_seq ?_
    refine J_region ?_
    refine JL_q (wants_none rfl) rfl (ex_load_bx 6 ti_51 rfl rfl rfl) ?_
    refine JL_q (wants_none rfl) rfl (ex_move rfl) ?_
    refine JL_inlinev (args := [_]) (caps := [.pointer (some ⟨b5_, 0, none⟩)]) (wants_none rfl) rfl Try.call18 rfl rfl Try.func18 rfl Try.ntmps18 rfl rfl (fun K_ hK14 => ?_)
    refine J_seq ?_
    refine J_region ?_
    refine JL_q (wants_none rfl) rfl (ex_assign rfl) ?_
    refine JL_nil ?_
    refine N_then ?_
    refine J_seq ?_
    refine J_region ?_
    refine JL_st (wants_none rfl) rfl (st_buildSlice (vs := []) ([] : List Int) Try.underlying27 ti_2 zi_2 rfl rfl rfl (fun w hh => trivial)) (fun b15 => ?_)
    refine JL_q (wants_none rfl) rfl (ex_assign rfl) ?_
    refine JL_nil ?_
    refine N_then ?_
    refine J_seq ?_
    refine J_seq ?_
    refine J_region ?_
    refine JL_q (wants_none rfl) rfl (ex_load_bx 6 ti_46 rfl rfl rfl) ?_
    refine JL_q (wants_none rfl) rfl (ex_move rfl) ?_
    refine JL_inlinev (args := [_]) (caps := [.pointer (some ⟨b6_, 0, none⟩)]) (wants_none rfl) rfl Try.call16 rfl rfl Try.func16 rfl Try.ntmps16 rfl rfl (fun K_ hK16 => ?_)
    refine J_seq ?_
    refine J_region ?_
    refine JL_q (wants_none rfl) rfl (ex_assign rfl) ?_
    refine JL_nil ?_
    refine N_then ?_
    refine J_seq ?_
    refine J_region ?_
    refine JL_q (wants_none rfl) rfl (ex_fieldAddr fi_26_2 rfl rfl) ?_
    refine JL_q (wants_none rfl) rfl (ex_load_bx 5 ti_24 rfl rfl rfl) ?_
    refine JL_q (wants_none rfl) rfl (ex_move rfl) ?_
    refine JL_q (wants_none rfl) rfl (ex_fieldAddr fi_26_0 rfl rfl) ?_
    refine JL_q (wants_none rfl) rfl (ex_load_bx 5 ti_2 rfl rfl rfl) ?_
    refine JL_q (wants_none rfl) rfl (ex_mul rfl rfl) ?_
    refine JL_q (wants_none rfl) rfl (ex_move rfl) ?_
    refine JL_q (wants_none rfl) rfl (ex_add rfl rfl) ?_
    refine JL_q (wants_none rfl) rfl (ex_fieldAddr fi_26_0 rfl rfl) ?_
    refine JL_q (wants_none rfl) rfl (ex_load_bx 5 ti_2 rfl rfl rfl) ?_
    refine JL_q (wants_none rfl) rfl (ex_mul rfl rfl) ?_
    refine JL_bnd fun z17 hz18 => ?_
    refine JL_st (wants_none rfl) rfl (st_slice 4 Try.underlying24 ti_49 rfl rfl rfl rfl hz18) (fun v19 => ?_)
    refine JL_q (wants_none rfl) rfl (ex_assign rfl) ?_
    refine JL_nil ?_
    refine N_then ?_
    refine J_ret ?_
    refine N_inl1 hK16 rfl (rv_tmp rfl) ?_
    refine JL_q (wants_none rfl) rfl (ex_len_rd 0 Try.underlying24 rfl rfl) ?_
    refine JL_q (wants_none rfl) rfl (ex_move rfl) ?_
    refine JL_nil ?_
    refine N_then ?_
    refine J_loop' (S := (List Int) × Int) (G := Value) (F_impl_reachable_1_c0_L1 z17) (fun s20 g21 => [(4, g21), (10, v19), (11, .int .i64 (z17.length : Int)), (12, .int .i64 s20.2)]) (fun s20 g21 => [rest w B_, .ow 2 g21 s20.1, .rd v19 z17, .bx b1_ 2 [.int .i64 p1], .ow 4 (.slice (some ⟨b12, 0, none⟩) p2.length cap13) (p2.set p0.toNat true), .bx b2_ 71 [(.slice (some ⟨b12, 0, none⟩) p2.length cap13)], .rd v6_2 p6.Rules, .bx b6_ 26 [.int .i64 p6.Symbols, .int .i64 p6.States, v6_2], .bx b5_ 46 [.func (.func 16) #[] #[.pointer (some ⟨b6_, 0, none⟩)]], .bx b3_ 51 [.func (.func 18) #[] #[.pointer (some ⟨b5_, 0, none⟩)]], .bx b4_ 72 [.func (.func 37) #[] #[.pointer (some ⟨b1_, 0, none⟩), .pointer (some ⟨b2_, 0, none⟩), .pointer (some ⟨b3_, 0, none⟩), .pointer (some ⟨b4_, 0, none⟩)]], .tkn (.int .i64 0) (0 : Int) (restL w B_)]) (([] : List Int), 0) (.slice (some ⟨b15, 0, none⟩) 0 0) ⟨rfl, rfl, rfl, rfl, trivial⟩ [2, 1, 0, 9, 3, 4, 5, 6, 7, 8, 10, 11] rfl rfl (fun s20 g21 => ?_) (fun s20 g21 => ?_)
    · unfold F_impl_reachable_1_c0_L1
      refine J_seq ?_
      refine J_region ?_
      refine JL_q (wants_none rfl) rfl (ex_lss rfl rfl) ?_
      refine JL_nil ?_
      refine N_then ?_
      refine J_seq ?_
      refine J_if rfl (fun h22 => ?_) (fun h22 => ?_)
      · refine J_skip ?_
        refine N_then ?_
        refine J_seq ?_
        refine J_block ?_
        refine J_seq ?_
        refine J_region ?_
        refine JL_bnd fun y23 hy24 => ?_
        refine JL_st (wants_none rfl) rfl (st_index 2 Try.underlying24 ti_49 rfl rfl rfl hy24) (fun q25 => ?_)
        refine JL_st (wants_none rfl) rfl (st_load_pt_o 0 (GRule.opens _) ti_49 rfl rfl) (fun _ => ?_)
        refine JL_st (wants_none rfl) rfl (st_alloc zi_49 rfl) (fun b27 => ?_)
        refine JL_sk (wants_none rfl) (sk_store_bx' 0 ti_49 rfl rfl (fun w hh => (cv_aggs ⟨cv_int, cv_int, cv_int, trivial⟩)) rfl rfl rfl rfl) ?_
        refine JL_nil ?_
        refine N_then ?_
        refine J_seq ?_
        refine J_region ?_
        refine JL_q (wants_none rfl) rfl (ex_load_bx_agg 0 ti_49 rfl rfl rfl rfl) ?_
        refine JL_bnd fun r28 hr29 => ?_
        refine JL_call (wants_none rfl) rfl Try.call19 rfl (Ca_of0 fun w hh => c_impl_isRule _ w (fun _ hk => hk.elim) _ _ (GRule.rdmk (Rd.mk_int _ _ _) (Rd.mk_int _ _ _) (Rd.mk_int _ _ _)) _ hr29) (fun _ => ?_)
        refine JL_nil ?_
        refine N_then ?_
        refine J_if rfl (fun h30 => ?_) (fun h30 => ?_)
        · refine J_region ?_
          refine JL_q (wants_none rfl) rfl (ex_move rfl) ?_
          refine JL_q (wants_none rfl) rfl (ex_fieldAddr fi_49_2 rfl rfl) ?_
          refine JL_q (wants_none rfl) rfl (ex_load_bx 0 ti_2 rfl rfl rfl) ?_
          refine JL_st (wants_none rfl) rfl (st_buildSlice (vs := [.int .i64 y23.Next]) ([y23.Next] : List Int) Try.underlying27 ti_2 zi_2 rfl rfl rfl (fun w hh => ⟨(Rd.mk_int _ _ _), trivial⟩)) (fun b31 => ?_)
          refine JL_bnd fun z32 hz33 => ?_
          refine JL_st (wants_none rfl) rfl (st_append 4 Try.underlying27 ti_2 zi_2 rfl bi_2 rfl rfl rfl rfl (fun w hh => hh.src_ow 0 rfl) hz33) (fun v34 => ?_)
          refine JL_q (wants_none rfl) rfl (ex_assign rfl) ?_
          refine JL_nil ?_
          refine N_block ?_
          refine N_then ?_
          refine J_region ?_
          refine JL_q (wants_none rfl) rfl (ex_add rfl rfl) ?_
          refine JL_q (wants_none rfl) rfl (ex_move rfl) ?_
          refine JL_nil ?_
          exact N_next' v34 ⟨rfl, rfl, rfl, rfl, trivial⟩ [3, 4, 5, 6, 7, 8, 9, 10, 11, 12, 13, 14] rfl rfl
        · refine J_skip ?_
          refine N_block ?_
          refine N_then ?_
          refine J_region ?_
          refine JL_q (wants_none rfl) rfl (ex_add rfl rfl) ?_
          refine JL_q (wants_none rfl) rfl (ex_move rfl) ?_
          refine JL_nil ?_
          exact N_next' g21 ⟨rfl, rfl, rfl, rfl, trivial⟩ [2, 3, 4, 5, 6, 7, 8, 9, 10, 11, 12, 13] rfl rfl
      · refine J_exit ?_
        refine N_then_exit ?_
        exact N_break' g21 ⟨rfl, rfl, rfl, rfl, trivial⟩ [0, 1, 2, 3, 4, 5, 6, 7, 8, 9, 10, 11] rfl rfl
    · refine N_then ?_
      refine J_seq ?_
      refine J_region ?_
      refine JL_q (wants_none rfl) rfl (ex_move rfl) ?_
      refine JL_q (wants_none rfl) rfl (ex_assign rfl) ?_
      refine JL_nil ?_
      refine N_then ?_
      refine J_ret ?_
      refine N_inl1 hK14 rfl (rv_tmp rfl) ?_
      refine JL_q (wants_none rfl) rfl (ex_len_ow 1 Try.underlying27 rfl rfl) ?_
      refine JL_q (wants_none rfl) rfl (ex_move rfl) ?_
      refine JL_nil ?_
      refine N_then ?_
      refine J_loop' (S := (List Bool) × Int) (G := Value) (F_impl_reachable_1_c0_L2 p1 p6 (fun p0 p1 p2 p6 => fixN (fun (rec_ : (Int × Int × (List Bool) × GMachine) → Option ((Unit) × ((List Bool)))) (a_ : Int × Int × (List Bool) × GMachine) => F_impl_reachable_1_c0_step (fun p0 p1 p2 p6 => rec_ (p0, p1, p2, p6)) a_.1 a_.2.1 a_.2.2.1 a_.2.2.2) k_ (p0, p1, p2, p6)) s20) (fun s35 g36 => [(4, .pointer (some ⟨b4_, 0, none⟩)), (22, g21), (23, .int .i64 (s20.1.length : Int)), (24, .int .i64 s35.2)]) (fun s35 g36 => [rest w B_, .bx b1_ 2 [.int .i64 p1], .ow 4 g36 s35.1, .bx b2_ 71 [g36], .rd v6_2 p6.Rules, .bx b6_ 26 [.int .i64 p6.Symbols, .int .i64 p6.States, v6_2], .bx b5_ 46 [.func (.func 16) #[] #[.pointer (some ⟨b6_, 0, none⟩)]], .bx b3_ 51 [.func (.func 18) #[] #[.pointer (some ⟨b5_, 0, none⟩)]], .bx b4_ 72 [.func (.func 37) #[] #[.pointer (some ⟨b1_, 0, none⟩), .pointer (some ⟨b2_, 0, none⟩), .pointer (some ⟨b3_, 0, none⟩), .pointer (some ⟨b4_, 0, none⟩)]], .ow 2 g21 s20.1, .tkn (.int .i64 0) (0 : Int) (restL w B_)]) ((p2.set p0.toNat true), 0) (.slice (some ⟨b12, 0, none⟩) p2.length cap13) ⟨rfl, rfl, rfl, rfl, trivial⟩ [0, 3, 4, 5, 6, 7, 8, 9, 10, 1, 11] rfl rfl (fun s35 g36 => ?_) (fun s35 g36 => ?_)
      · unfold F_impl_reachable_1_c0_L2
        refine J_seq ?_
        refine J_region ?_
        refine JL_q (wants_none rfl) rfl (ex_lss rfl rfl) ?_
        refine JL_nil ?_
        refine N_then ?_
        refine J_seq ?_
        refine J_if rfl (fun h37 => ?_) (fun h37 => ?_)
        · refine J_skip ?_
          refine N_then ?_
          refine J_seq ?_
          refine J_block ?_
          refine J_seq ?_
          refine J_region ?_
          refine JL_bnd fun y38 hy39 => ?_
          refine JL_ow_open (v := g21) 9 rfl hy39 ?_; rintro b40 cap41 rfl
          refine JL_q (wants_none rfl) rfl (ex_index_ow 9 Try.underlying27 ti_2 rfl rfl rfl hy39) ?_
          refine JL_q (wants_none rfl) rfl (ex_load_ow_int 9 ti_2 rfl rfl hy39) ?_
          refine JL_q (wants_none rfl) rfl (ex_assign rfl) ?_
          refine JL_nil ?_
          refine N_then ?_
          refine J_region ?_
          refine JL_q (wants_none rfl) rfl (ex_load_bx 8 ti_72 rfl rfl rfl) ?_
          refine JL_q (wants_none rfl) rfl (ex_move rfl) ?_
          refine JL_bnd fun r43 hr44 => ?_
          refine JL_callvT (args := [_]) (caps := [.pointer (some ⟨b1_, 0, none⟩), .pointer (some ⟨b2_, 0, none⟩), .pointer (some ⟨b3_, 0, none⟩), .pointer (some ⟨b4_, 0, none⟩)]) (wants_none rfl) rfl Try.call37 rfl rfl (CaT_of [1, 3, 2, 7, 8, 6, 5] [0, 4, 9, 10] rfl rfl (fun _ => rfl) fun w hh => ih_ w b1_ p1 b2_ s35.1 g36 b3_ b4_ b5_ b6_ p6 v6_2 _ rfl (hh.handed [1, 3, 2, 7, 8, 6, 5] rfl rfl rfl rfl) _ (hh.apart [1, 3, 2, 7, 8, 6, 5] rfl (hh.rd 4 rfl)) _ hr44) (fun x45 => ?_)
          refine JL_nil ?_
          refine N_block ?_
          refine N_then ?_
          refine J_region ?_
          refine JL_q (wants_none rfl) rfl (ex_add rfl rfl) ?_
          refine JL_q (wants_none rfl) rfl (ex_move rfl) ?_
          refine JL_nil ?_
          exact N_next' x45 ⟨rfl, rfl, rfl, rfl, trivial⟩ [7, 0, 2, 1, 8, 6, 5, 3, 4, 9, 10] rfl rfl
        · refine J_exit ?_
          refine N_then_exit ?_
          exact N_break' g36 ⟨rfl, rfl, rfl, rfl, trivial⟩ [0, 1, 2, 3, 4, 5, 6, 7, 8, 9, 10] rfl rfl
      · exact N_ret0 (.inr rfl) rfl  (fun w hh => ⟨g36, rfl, hh.sel [1, 3, 2, 7, 8, 6, 5, 10, 0] rfl⟩)
theorem c_impl_reachable_1_c0 (w : World) (b1_ : Nat) (p1 : Int) (b2_ : Nat) (p2 : (List Bool)) (v2_0 : Value) (b3_ : Nat) (b4_ : Nat) (b5_ : Nat) (b6_ : Nat) (p6 : GMachine) (v6_2 : Value) (B_ : List Nat) (hB_ : Ctx.owns [.bx b1_ 2 [.int .i64 p1], .bx b2_ 71 [v2_0], .ow 4 v2_0 p2, .bx b3_ 51 [.func (.func 18) #[] #[.pointer (some ⟨b5_, 0, none⟩)]], .bx b4_ 72 [.func (.func 37) #[] #[.pointer (some ⟨b1_, 0, none⟩), .pointer (some ⟨b2_, 0, none⟩), .pointer (some ⟨b3_, 0, none⟩), .pointer (some ⟨b4_, 0, none⟩)]], .bx b5_ 46 [.func (.func 16) #[] #[.pointer (some ⟨b6_, 0, none⟩)]], .bx b6_ 26 [.int .i64 p6.Symbols, .int .i64 p6.States, v6_2]] = B_) (hn_ : PHanded w [.bx b1_ 2 [.int .i64 p1], .bx b2_ 71 [v2_0], .ow 4 v2_0 p2, .bx b3_ 51 [.func (.func 18) #[] #[.pointer (some ⟨b5_, 0, none⟩)]], .bx b4_ 72 [.func (.func 37) #[] #[.pointer (some ⟨b1_, 0, none⟩), .pointer (some ⟨b2_, 0, none⟩), .pointer (some ⟨b3_, 0, none⟩), .pointer (some ⟨b4_, 0, none⟩)]], .bx b5_ 46 [.func (.func 16) #[] #[.pointer (some ⟨b6_, 0, none⟩)]], .bx b6_ 26 [.int .i64 p6.Symbols, .int .i64 p6.States, v6_2]]) (p0 : Int) (hp6_2 : Rd (fun k => k ∈ B_) w v6_2 p6.Rules) (r : (Unit) × ((List Bool))) (hr : F_impl_reachable_1_c0 p0 p1 p2 p6 = some r) :
    PtrCon Try.prog 37 [.int .i64 p0, .pointer (some ⟨b1_, 0, none⟩), .pointer (some ⟨b2_, 0, none⟩), .pointer (some ⟨b3_, 0, none⟩), .pointer (some ⟨b4_, 0, none⟩)] w B_ (fun x_ : Value => .tuple #[]) (fun x_ => [.bx b1_ 2 [.int .i64 p1], .bx b2_ 71 [x_], .ow 4 x_ r.2, .bx b3_ 51 [.func (.func 18) #[] #[.pointer (some ⟨b5_, 0, none⟩)]], .bx b4_ 72 [.func (.func 37) #[] #[.pointer (some ⟨b1_, 0, none⟩), .pointer (some ⟨b2_, 0, none⟩), .pointer (some ⟨b3_, 0, none⟩), .pointer (some ⟨b4_, 0, none⟩)]], .bx b5_ 46 [.func (.func 16) #[] #[.pointer (some ⟨b6_, 0, none⟩)]], .bx b6_ 26 [.int .i64 p6.Symbols, .int .i64 p6.States, v6_2]]) := by
  obtain ⟨k_, hk_⟩ := fixR_some hr
  exact c_impl_reachable_1_c0_ind k_ w b1_ p1 b2_ p2 v2_0 b3_ b4_ b5_ b6_ p6 v6_2 B_ hB_ hn_ p0 hp6_2 r hk_

set_option maxHeartbeats 40000000 in
theorem c_impl_PruneMachine (A : Nat → Prop) (w : World) (hA : ∀ k, A k → k < w.heap.size) (v0_ : Value) (p0 : GMachine) (hp0 : Rd A w v0_ p0) (r : GMachine × (List Int) × Int) (hr : F_impl_PruneMachine p0 = some r) :
    Con Try.prog 6 [v0_] A w (fun x_ : Value × Value => .tuple #[.agg #[.int .i64 r.1.Symbols, .int .i64 r.1.States, x_.1], x_.2, .int .i64 r.2.2]) (fun x_ => [.ow 49 x_.1 r.1.Rules, .ow 2 x_.2 r.2.1]) := by
  obtain ⟨v0_0, rfl, hp0_0⟩ := GMachine.open hp0
  refine Con_of (v := fun (r : GMachine × (List Int) × Int) (x_ : Value × Value) => .tuple #[.agg #[.int .i64 r.1.Symbols, .int .i64 r.1.States, x_.1], x_.2, .int .i64 r.2.2]) (fs := fun r x_ => [.ow 49 x_.1 r.1.Rules, .ow 2 x_.2 r.2.1]) Try.func6 rfl Try.ntmps6 rfl ((SH.start hA).start_rd rfl hp0_0) rfl ?_ hr
  unfold F_impl_PruneMachine
  refine J_seq ?_
  refine J_region ?_
  refine JL_st (wants_none rfl) rfl (st_box' rfl (fun w hh => (cv_aggs ⟨cv_int, cv_int, (hh.cv 0 rfl), trivial⟩))) (fun b1 => ?_)
  refine JL_st (wants_none rfl) rfl (st_alloc zi_26 rfl) (fun b2 => ?_)
  refine JL_q (wants_none rfl) rfl (ex_assign rfl) ?_
  refine JL_q (wants_none rfl) rfl (ex_assign rfl) ?_
  refine JL_nil ?_
  refine N_then ?_
  refine J_seq ?_
  refine J_seq ?_
  refine J_region ?_
  refine JL_q (wants_none rfl) rfl (ex_load_bx_agg 1 ti_26 rfl rfl rfl rfl) ?_
  refine JL_bnd fun r3 hr4 => ?_
  refine JL_call (wants_none rfl) rfl Try.call7 rfl (Ca_of0 fun w hh => c_impl_ValidMachine _ w (fun _ hk => hk.elim) _ _ (GMachine.rdmk (Rd.mk_int _ _ _) (Rd.mk_int _ _ _) (hh.rd0 2 rfl)) _ hr4) (fun _ => ?_)
  refine JL_q (wants_none rfl) rfl (ex_not rfl) ?_
  refine JL_nil ?_
  refine N_then ?_
  refine J_if rfl (fun h5 => ?_) (fun h5 => ?_)
  · refine J_seq ?_
    refine J_region ?_
    refine JL_q (wants_none rfl) rfl (ex_build si_26 rfl .nil (fun w hh => trivial)) ?_
    refine JL_sk (wants_none rfl) (sk_store_bx' 0 ti_26 rfl rfl (fun w hh => (cv_aggs ⟨cv_int, cv_int, cv_slice, trivial⟩)) rfl rfl rfl rfl) ?_
    refine JL_q (wants_none rfl) rfl (ex_assign rfl) ?_
    refine JL_q (wants_none rfl) rfl (ex_assign rfl) ?_
    refine JL_nil ?_
    refine N_then ?_
    refine J_ret ?_
    refine N_then_ret ?_
    refine N_ctx (fun w hh => SH.ow_nil (α := GRule) 49 hh) ?_
    refine N_ctx (fun w hh => SH.ow_nil (α := Int) 2 hh) ?_
    exact N_ret3 rfl (rv_cell 2 rfl rfl ti_26 rfl) (rv_tmp rfl) (rv_tmp rfl) (fun w hh => ⟨((.slice none 0 0 : Value), (.slice none 0 0 : Value)), rfl, hh.sel [1, 0] rfl⟩)
  · refine J_skip ?_
    refine N_then ?_
    refine J_seq ?_
    refine J_region ?_
    refine JL_q (wants_none rfl) rfl (ex_makeFunc rfl) ?_
    refine JL_st (wants_none rfl) rfl (st_alloc zi_46 rfl) (fun b6 => ?_)
    refine JL_sk (wants_none rfl) (sk_store_bx' 0 ti_46 rfl rfl (fun w hh => cv_fn) rfl rfl rfl rfl) ?_
    refine JL_nil ?_
    refine N_then ?_
    refine J_seq ?_
    refine J_region ?_
    refine JL_q (wants_none rfl) rfl (ex_fieldAddr fi_26_1 rfl rfl) ?_
    refine JL_q (wants_none rfl) rfl (ex_load_bx 2 ti_2 rfl rfl rfl) ?_
    refine JL_q (wants_none rfl) rfl (ex_makeFunc rfl) ?_
    refine JL_inline (wants_none rfl) rfl Try.call17 rfl Try.func17 rfl Try.ntmps17 rfl rfl (fun K_ hK7 => ?_)
    refine J_seq ?_
    refine J_region ?_
    refine JL_st (wants_none rfl) rfl (st_box' rfl (fun w hh => cv_int)) (fun b8 => ?_)
    refine JL_st (wants_none rfl) rfl (st_box' rfl (fun w hh => cv_fn)) (fun b9 => ?_)
    refine JL_q (wants_none rfl) rfl (ex_assign rfl) ?_
    refine JL_nil ?_
    refine N_then ?_
    refine J_seq ?_
    refine J_region ?_
    refine JL_q (wants_none rfl) rfl (ex_load_bx 1 ti_2 rfl rfl rfl) ?_
    refine JL_bnd fun z10 hz11 => ?_
    refine JL_st (wants_none rfl) rfl (st_make (α := Bool) Try.underlying71 ti_4 zi_4 bi_4 rfl (fun _ _ => zero_bool) rfl hz11) (fun b12 => ?_)
    refine JL_st (wants_none rfl) rfl (st_alloc zi_71 rfl) (fun b13 => ?_)
    refine JL_sk (wants_none rfl) (sk_store_bx' 0 ti_71 rfl rfl (fun w hh => (hh.cv_ow 1 rfl)) rfl rfl rfl rfl) ?_
    refine JL_nil ?_
    refine N_then ?_
    refine J_seq ?_
    refine J_region ?_
    refine JL_st (wants_none rfl) rfl (st_alloc zi_72 rfl) (fun b14 => ?_)
    refine JL_nil ?_
    refine N_then ?_
    refine J_seq ?_
    refine J_region ?_
    refine JL_q (wants_none rfl) rfl (ex_makeFunc rfl) ?_
    refine JL_sk (wants_none rfl) (sk_store_bx' 0 ti_72 rfl rfl (fun w hh => cv_fn) rfl rfl rfl rfl) ?_
    refine JL_nil ?_
    refine N_then ?_
    refine J_seq ?_
    refine J_region ?_
    refine JL_q (wants_none rfl) rfl (ex_load_bx 0 ti_72 rfl rfl rfl) ?_
    refine JL_bnd fun r15 hr16 => ?_
    refine JL_callvT (args := [_]) (caps := [.pointer (some ⟨b8, 0, none⟩), .pointer (some ⟨b13, 0, none⟩), .pointer (some ⟨b9, 0, none⟩), .pointer (some ⟨b14, 0, none⟩)]) (wants_none rfl) rfl Try.call37 rfl rfl (CaT_of [4, 1, 2, 3, 0, 5, 7] [6, 8] rfl rfl (fun _ => rfl) fun w hh => c_impl_reachable_1_c0 w b8 p0.States b13 z10 (.slice (some ⟨b12, 0, none⟩) z10.length z10.length) b9 b14 b6 b1 p0 v0_0 _ rfl (hh.handed [4, 1, 2, 3, 0, 5, 7] rfl rfl rfl rfl) _ (hh.apart [4, 1, 2, 3, 0, 5, 7] rfl (hh.rd 8 rfl)) _ hr16) (fun x17 => ?_)
    refine JL_nil ?_
    refine N_then ?_
    refine J_seq ?_
    refine J_region ?_
    refine JL_st (wants_none rfl) rfl (st_buildSlice (vs := []) ([] : List Int) Try.underlying27 ti_2 zi_2 rfl rfl rfl (fun w hh => trivial)) (fun b18 => ?_)
    refine JL_q (wants_none rfl) rfl (ex_assign rfl) ?_
    refine JL_nil ?_
    refine N_then ?_
    refine J_seq ?_
    refine J_seq ?_
    refine J_region ?_
    refine JL_q (wants_none rfl) rfl (ex_load_bx 2 ti_71 rfl rfl rfl) ?_
    refine JL_q (wants_none rfl) rfl (ex_len_ow 3 Try.underlying71 rfl rfl) ?_
    refine JL_q (wants_none rfl) rfl (ex_move rfl) ?_
    refine JL_nil ?_
    refine N_then ?_
    refine J_loop' (S := (List Int) × Int) (G := Value) (F_impl_PruneMachine_L1 r15) (fun s19 g20 => [(7, g20), (16, x17), (17, .int .i64 (r15.2.length : Int)), (18, .int .i64 s19.2)]) (fun s19 g20 => [.ow 2 g20 s19.1, .ow 4 x17 r15.2, .rd v0_0 p0.Rules, .bx b1 26 [.int .i64 p0.Symbols, .int .i64 p0.States, v0_0], .bx b2 26 [.int .i64 0, .int .i64 0, .slice none 0 0], .bx b6 46 [.func (.func 16) #[] #[.pointer (some ⟨b1, 0, none⟩)]]]) (([] : List Int), 0) (.slice (some ⟨b18, 0, none⟩) 0 0) ⟨rfl, rfl, rfl, rfl, trivial⟩ [0, 3, 9, 7, 8, 6] rfl rfl (fun s19 g20 => ?_) (fun s19 g20 => ?_)
    · unfold F_impl_PruneMachine_L1
      refine J_seq ?_
      refine J_region ?_
      refine JL_q (wants_none rfl) rfl (ex_lss rfl rfl) ?_
      refine JL_nil ?_
      refine N_then ?_
      refine J_seq ?_
      refine J_if rfl (fun h21 => ?_) (fun h21 => ?_)
      · refine J_skip ?_
        refine N_then ?_
        refine J_seq ?_
        refine J_block ?_
        refine J_seq ?_
        refine J_region ?_
        refine JL_q (wants_none rfl) rfl (ex_move rfl) ?_
        refine JL_bnd fun y22 hy23 => ?_
        refine JL_ow_open (v := x17) 1 rfl hy23 ?_; rintro b24 cap25 rfl
        refine JL_q (wants_none rfl) rfl (ex_index_ow 1 Try.underlying71 ti_4 rfl rfl rfl hy23) ?_
        refine JL_st (wants_none rfl) rfl (st_load_ow_o 1 (opens_bool _) ti_4 rfl rfl hy23) (fun _ => ?_)
        refine JL_q (wants_none rfl) rfl (ex_assign rfl) ?_
        refine JL_q (wants_none rfl) rfl (ex_assign rfl) ?_
        refine JL_nil ?_
        refine N_then ?_
        refine J_seq ?_
        refine J_region ?_
        refine JL_q (wants_none rfl) rfl (ex_move rfl) ?_
        refine JL_nil ?_
        refine N_then ?_
        refine J_if rfl (fun h27 => ?_) (fun h27 => ?_)
        · refine J_region ?_
          refine JL_q (wants_none rfl) rfl (ex_move rfl) ?_
          refine JL_q (wants_none rfl) rfl (ex_move rfl) ?_
          refine JL_st (wants_none rfl) rfl (st_buildSlice (vs := [.int .i64 s19.2]) ([s19.2] : List Int) Try.underlying27 ti_2 zi_2 rfl rfl rfl (fun w hh => ⟨(Rd.mk_int _ _ _), trivial⟩)) (fun b28 => ?_)
          refine JL_bnd fun z29 hz30 => ?_
          refine JL_st (wants_none rfl) rfl (st_append 1 Try.underlying27 ti_2 zi_2 rfl bi_2 rfl rfl rfl rfl (fun w hh => hh.src_ow 0 rfl) hz30) (fun v31 => ?_)
          refine JL_q (wants_none rfl) rfl (ex_assign rfl) ?_
          refine JL_nil ?_
          refine N_block ?_
          refine N_then ?_
          refine J_region ?_
          refine JL_q (wants_none rfl) rfl (ex_add rfl rfl) ?_
          refine JL_q (wants_none rfl) rfl (ex_move rfl) ?_
          refine JL_nil ?_
          exact N_next' v31 ⟨rfl, rfl, rfl, rfl, trivial⟩ [1, 2, 3, 4, 5, 6] rfl rfl
        · refine J_skip ?_
          refine N_block ?_
          refine N_then ?_
          refine J_region ?_
          refine JL_q (wants_none rfl) rfl (ex_add rfl rfl) ?_
          refine JL_q (wants_none rfl) rfl (ex_move rfl) ?_
          refine JL_nil ?_
          exact N_next' g20 ⟨rfl, rfl, rfl, rfl, trivial⟩ [0, 1, 2, 3, 4, 5] rfl rfl
      · refine J_exit ?_
        refine N_then_exit ?_
        exact N_break' g20 ⟨rfl, rfl, rfl, rfl, trivial⟩ [0, 1, 2, 3, 4, 5] rfl rfl
    · refine N_then ?_
      refine J_seq ?_
      refine J_region ?_
      refine JL_q (wants_none rfl) rfl (ex_move rfl) ?_
      refine JL_q (wants_none rfl) rfl (ex_assign rfl) ?_
      refine JL_nil ?_
      refine N_then ?_
      refine J_ret ?_
      refine N_inl1 hK7 rfl (rv_tmp rfl) ?_
      refine JL_q (wants_none rfl) rfl (ex_assign rfl) ?_
      refine JL_nil ?_
      refine N_then ?_
      refine J_seq ?_
      refine J_cut' (S' := Int × Int) (G' := Nat) (fun s32 g33 => [(2, .pointer (some ⟨b2, 0, none⟩)), (5, .pointer (some ⟨b6, 0, none⟩)), (6, g20), (7, .pointer (some ⟨g33, 0, none⟩))]) (fun s32 g33 => [.bx b2 26 [.int .i64 0, .int .i64 0, .slice none 0 0], .rd v0_0 p0.Rules, .bx b1 26 [.int .i64 p0.Symbols, .int .i64 p0.States, v0_0], .bx b6 46 [.func (.func 16) #[] #[.pointer (some ⟨b1, 0, none⟩)]], .ow 2 g20 s19.1, .bx g33 26 [.int .i64 s32.1, .int .i64 s32.2, .slice none 0 0]]) ?_ (fun s32 g33 => ?_)
      · refine J_draw [] (by kernel_rfl) ?_
        refine JP_take (i := 0) [0, 1, 2, 3, 4, 5] [] rfl (by kernel_rfl) (by kernel_rfl) (by kernel_rfl) rfl rfl (wants_none rfl) rfl (ex_fieldAddr fi_26_0 rfl rfl) ?_
        refine JP_take (i := 1) [0, 1, 2, 3, 4, 5] [] rfl (by kernel_rfl) (by kernel_rfl) (by kernel_rfl) rfl rfl (wants_none rfl) rfl (ex_load_bx 3 ti_2 rfl rfl rfl) ?_
        refine JP_take (i := 2) [0, 1, 2, 3, 4, 5] [] rfl (by kernel_rfl) (by kernel_rfl) (by kernel_rfl) rfl rfl (wants_none rfl) rfl (ex_move rfl) ?_
        refine JP_go [0, 1, 2, 3, 4, 5] [] rfl rfl rfl (fun w35 h1_36 hp34 => ?_)
        refine JD_bnd fun r37 hr38 => ?_
        refine JD_two (i := 3) (j := 5) (by kernel_rfl) ?_ ?_
        · refine JO_call rfl (wants_none rfl) rfl Try.call20 rfl (Ca_of0 fun w hh => c_impl_size_int64 _ w (fun _ hk => hk.elim) _ _ (hh.ow0 0 rfl) _ hr38) (fun _ => ?_)
          refine JD_take (i := 4) hp34 rfl (by kernel_rfl) (by kernel_rfl) (by kernel_rfl) (wants_none rfl) rfl (ex_build si_26 rfl (.cons fi_26_0 rfl rfl (.cons fi_26_1 rfl rfl .nil)) (fun w hh => ⟨cv_int, cv_int, trivial⟩)) ?_
          refine JD_one (i := 5) (by kernel_rfl) ?_
          refine JO_st rfl (wants_none rfl) rfl (st_alloc zi_26 rfl) (fun _ hk => nomatch hk) (fun b39 => ?_)
          refine JD_one (i := 6) (by kernel_rfl) ?_
          refine JO_sk2 0 [] [0, 1, 2, 3, 4, 5] [1, 2, 3, 4, 5, 6] rfl rfl rfl rfl rfl rfl (wants_none rfl) (sk_store_bx' 0 ti_26 rfl rfl (fun w hh => (cv_aggs ⟨cv_int, cv_int, cv_slice, trivial⟩)) rfl rfl rfl rfl) (fun _ hk => hk) ?_
          refine JD_done (by kernel_rfl) ?_
          exact N_meet' b39 ⟨rfl, rfl, rfl, rfl, trivial⟩ [5, 3, 4, 6, 1, 0] rfl rfl
        · refine JO_st rfl (wants_none rfl) rfl (st_alloc zi_26 rfl) (fun _ hk => nomatch hk) (fun b40 => ?_)
          refine JD_one (i := 3) (by kernel_rfl) ?_
          refine JO_call rfl (wants_none rfl) rfl Try.call20 rfl (Ca_of0 fun w hh => c_impl_size_int64 _ w (fun _ hk => hk.elim) _ _ (hh.ow0 1 rfl) _ hr38) (fun _ => ?_)
          refine JD_take (i := 4) hp34 rfl (by kernel_rfl) (by kernel_rfl) (by kernel_rfl) (wants_none rfl) rfl (ex_build si_26 rfl (.cons fi_26_0 rfl rfl (.cons fi_26_1 rfl rfl .nil)) (fun w hh => ⟨cv_int, cv_int, trivial⟩)) ?_
          refine JD_one (i := 6) (by kernel_rfl) ?_
          refine JO_sk2 0 [] [0, 1, 2, 3, 4, 5] [1, 2, 3, 4, 5, 6] rfl rfl rfl rfl rfl rfl (wants_none rfl) (sk_store_bx' 0 ti_26 rfl rfl (fun w hh => (cv_aggs ⟨cv_int, cv_int, cv_slice, trivial⟩)) rfl rfl rfl rfl) (fun _ hk => hk) ?_
          refine JD_done (by kernel_rfl) ?_
          exact N_meet' b40 ⟨rfl, rfl, rfl, rfl, trivial⟩ [5, 3, 4, 6, 1, 0] rfl rfl
      · refine N_then ?_
        refine J_seq ?_
        refine J_seq ?_
        refine J_region ?_
        refine JL_q (wants_none rfl) rfl (ex_move rfl) ?_
        refine JL_q (wants_none rfl) rfl (ex_len_ow 4 Try.underlying27 rfl rfl) ?_
        refine JL_q (wants_none rfl) rfl (ex_move rfl) ?_
        refine JL_nil ?_
        refine N_then ?_
        refine J_ctx (fun w hh => SH.ow_nil (α := GRule) 49 hh) ?_
        refine J_loop' (S := (List GRule) × Int) (G := Value) (F_impl_PruneMachine_L2 p0 s19) (fun s41 g42 => [(2, .pointer (some ⟨b2, 0, none⟩)), (5, .pointer (some ⟨b6, 0, none⟩)), (6, g20), (7, .pointer (some ⟨g33, 0, none⟩)), (28, g20), (29, .int .i64 (s19.1.length : Int)), (30, .int .i64 s41.2)]) (fun s41 g42 => [.bx b2 26 [.int .i64 0, .int .i64 0, .slice none 0 0], .rd v0_0 p0.Rules, .bx b1 26 [.int .i64 p0.Symbols, .int .i64 p0.States, v0_0], .bx b6 46 [.func (.func 16) #[] #[.pointer (some ⟨b1, 0, none⟩)]], .ow 2 g20 s19.1, .ow 49 g42 s41.1, .bx g33 26 [.int .i64 s32.1, .int .i64 s32.2, g42]]) (([] : (List GRule)), 0) (.slice none 0 0 : Value) ⟨rfl, rfl, rfl, rfl, rfl, rfl, rfl, trivial⟩ [1, 2, 3, 4, 5, 0, 6] rfl rfl (fun s41 g42 => ?_) (fun s41 g42 => ?_)
        · unfold F_impl_PruneMachine_L2
          refine J_seq ?_
          refine J_region ?_
          refine JL_q (wants_none rfl) rfl (ex_lss rfl rfl) ?_
          refine JL_nil ?_
          refine N_then ?_
          refine J_seq ?_
          refine J_if rfl (fun h43 => ?_) (fun h43 => ?_)
          · refine J_skip ?_
            refine N_then ?_
            refine J_seq ?_
            refine J_block ?_
            refine J_seq ?_
            refine J_region ?_
            refine JL_bnd fun y44 hy45 => ?_
            refine JL_ow_open (v := g20) 4 rfl hy45 ?_; rintro b46 cap47 rfl
            refine JL_q (wants_none rfl) rfl (ex_index_ow 4 Try.underlying27 ti_2 rfl rfl rfl hy45) ?_
            refine JL_q (wants_none rfl) rfl (ex_load_ow_int 4 ti_2 rfl rfl hy45) ?_
            refine JL_q (wants_none rfl) rfl (ex_assign rfl) ?_
            refine JL_nil ?_
            refine N_then ?_
            refine J_seq ?_
            refine J_region ?_
            refine JL_q (wants_none rfl) rfl (ex_load_bx 3 ti_46 rfl rfl rfl) ?_
            refine JL_q (wants_none rfl) rfl (ex_move rfl) ?_
            refine JL_inlinev (args := [_]) (caps := [.pointer (some ⟨b1, 0, none⟩)]) (wants_none rfl) rfl Try.call16 rfl rfl Try.func16 rfl Try.ntmps16 rfl rfl (fun K_ hK49 => ?_)
            refine J_seq ?_
            refine J_region ?_
            refine JL_q (wants_none rfl) rfl (ex_assign rfl) ?_
            refine JL_nil ?_
            refine N_then ?_
            refine J_seq ?_
            refine J_region ?_
            refine JL_q (wants_none rfl) rfl (ex_fieldAddr fi_26_2 rfl rfl) ?_
            refine JL_q (wants_none rfl) rfl (ex_load_bx 2 ti_24 rfl rfl rfl) ?_
            refine JL_q (wants_none rfl) rfl (ex_move rfl) ?_
            refine JL_q (wants_none rfl) rfl (ex_fieldAddr fi_26_0 rfl rfl) ?_
            refine JL_q (wants_none rfl) rfl (ex_load_bx 2 ti_2 rfl rfl rfl) ?_
            refine JL_q (wants_none rfl) rfl (ex_mul rfl rfl) ?_
            refine JL_q (wants_none rfl) rfl (ex_move rfl) ?_
            refine JL_q (wants_none rfl) rfl (ex_add rfl rfl) ?_
            refine JL_q (wants_none rfl) rfl (ex_fieldAddr fi_26_0 rfl rfl) ?_
            refine JL_q (wants_none rfl) rfl (ex_load_bx 2 ti_2 rfl rfl rfl) ?_
            refine JL_q (wants_none rfl) rfl (ex_mul rfl rfl) ?_
            refine JL_bnd fun z50 hz51 => ?_
            refine JL_st (wants_none rfl) rfl (st_slice 1 Try.underlying24 ti_49 rfl rfl rfl rfl hz51) (fun v52 => ?_)
            refine JL_q (wants_none rfl) rfl (ex_assign rfl) ?_
            refine JL_nil ?_
            refine N_then ?_
            refine J_ret ?_
            refine N_inl1 hK49 rfl (rv_tmp rfl) ?_
            refine JL_q (wants_none rfl) rfl (ex_len_rd 0 Try.underlying24 rfl rfl) ?_
            refine JL_q (wants_none rfl) rfl (ex_move rfl) ?_
            refine JL_nil ?_
            refine N_then ?_
            refine J_loop' (S := (List GRule) × Int) (G := Value) (F_impl_PruneMachine_L3 s19 z50) (fun s53 g54 => [(2, .pointer (some ⟨b2, 0, none⟩)), (5, .pointer (some ⟨b6, 0, none⟩)), (6, (.slice (some ⟨b46, 0, none⟩) s19.1.length cap47)), (7, .pointer (some ⟨g33, 0, none⟩)), (28, (.slice (some ⟨b46, 0, none⟩) s19.1.length cap47)), (29, .int .i64 (s19.1.length : Int)), (30, .int .i64 s41.2), (36, v52), (37, .int .i64 (z50.length : Int)), (38, .int .i64 s53.2)]) (fun s53 g54 => [.bx b2 26 [.int .i64 0, .int .i64 0, .slice none 0 0], .rd v0_0 p0.Rules, .bx b1 26 [.int .i64 p0.Symbols, .int .i64 p0.States, v0_0], .bx b6 46 [.func (.func 16) #[] #[.pointer (some ⟨b1, 0, none⟩)]], .ow 2 (.slice (some ⟨b46, 0, none⟩) s19.1.length cap47) s19.1, .ow 49 g54 s53.1, .bx g33 26 [.int .i64 s32.1, .int .i64 s32.2, g54], .rd v52 z50]) (s41.1, 0) g42 ⟨rfl, rfl, rfl, rfl, rfl, rfl, rfl, rfl, rfl, rfl, trivial⟩ [1, 2, 3, 4, 5, 6, 7, 0] rfl rfl (fun s53 g54 => ?_) (fun s53 g54 => ?_)
            · unfold F_impl_PruneMachine_L3
              refine J_seq ?_
              refine J_region ?_
              refine JL_q (wants_none rfl) rfl (ex_lss rfl rfl) ?_
              refine JL_nil ?_
              refine N_then ?_
              refine J_seq ?_
              refine J_if rfl (fun h55 => ?_) (fun h55 => ?_)
              · refine J_skip ?_
                refine N_then ?_
                refine J_seq ?_
                refine J_block ?_
                refine J_seq ?_
                refine J_region ?_
                refine JL_bnd fun y56 hy57 => ?_
                refine JL_st (wants_none rfl) rfl (st_index 7 Try.underlying24 ti_49 rfl rfl rfl hy57) (fun q58 => ?_)
                refine JL_st (wants_none rfl) rfl (st_load_pt_o 0 (GRule.opens _) ti_49 rfl rfl) (fun _ => ?_)
                refine JL_st (wants_none rfl) rfl (st_alloc zi_49 rfl) (fun b60 => ?_)
                refine JL_sk (wants_none rfl) (sk_store_bx' 0 ti_49 rfl rfl (fun w hh => (cv_aggs ⟨cv_int, cv_int, cv_int, trivial⟩)) rfl rfl rfl rfl) ?_
                refine JL_nil ?_
                refine N_then ?_
                refine J_seq ?_
                refine J_seq ?_
                refine J_region ?_
                refine JL_q (wants_none rfl) rfl (ex_load_bx_agg 0 ti_49 rfl rfl rfl rfl) ?_
                refine JL_bnd fun r61 hr62 => ?_
                refine JL_call (wants_none rfl) rfl Try.call19 rfl (Ca_of0 fun w hh => c_impl_isRule _ w (fun _ hk => hk.elim) _ _ (GRule.rdmk (Rd.mk_int _ _ _) (Rd.mk_int _ _ _) (Rd.mk_int _ _ _)) _ hr62) (fun _ => ?_)
                refine JL_nil ?_
                refine N_then ?_
                refine J_if rfl (fun h63 => ?_) (fun h63 => ?_)
                · refine J_seq ?_
                  refine J_region ?_
                  refine JL_q (wants_none rfl) rfl (ex_move rfl) ?_
                  refine JL_q (wants_none rfl) rfl (ex_fieldAddr fi_49_2 rfl rfl) ?_
                  refine JL_q (wants_none rfl) rfl (ex_load_bx 0 ti_2 rfl rfl rfl) ?_
                  refine JL_bnd fun r64 hr65 => ?_
                  refine JL_call (wants_none rfl) rfl Try.call21 rfl (Ca_of0 fun w hh => c_slices_BinarySearch_Sint64_int64 _ w (fun _ hk => hk.elim) _ _ (hh.ow0 6 rfl) _ _ hr65) (fun _ => ?_)
                  refine JL_q (wants_none rfl) rfl (ex_move rfl) ?_
                  refine JL_q (wants_none rfl) rfl (ex_extract rfl rfl) ?_
                  refine JL_q (wants_none rfl) rfl (ex_extract rfl rfl) ?_
                  refine JL_q (wants_none rfl) rfl (ex_assign rfl) ?_
                  refine JL_q (wants_none rfl) rfl (ex_assign rfl) ?_
                  refine JL_nil ?_
                  refine N_then ?_
                  refine J_region ?_
                  refine JL_q (wants_none rfl) rfl (ex_move rfl) ?_
                  refine JL_q (wants_none rfl) rfl (ex_fieldAddr fi_49_2 rfl rfl) ?_
                  refine JL_sk (wants_none rfl) (sk_store_bx' 0 ti_2 rfl rfl (fun w hh => cv_int) rfl rfl rfl rfl) ?_
                  refine JL_nil ?_
                  refine N_then ?_
                  refine J_region ?_
                  refine JL_q (wants_none rfl) rfl (ex_fieldAddr fi_26_2 rfl rfl) ?_
                  refine JL_q (wants_none rfl) rfl (ex_load_bx 8 ti_24 rfl rfl rfl) ?_
                  refine JL_q (wants_none rfl) rfl (ex_load_bx_agg 0 ti_49 rfl rfl rfl rfl) ?_
                  refine JL_st (wants_none rfl) rfl (st_buildSlice (vs := [.agg #[.int .i64 y56.Write, .int .i64 y56.Move, .int .i64 r64.1]]) ([(⟨y56.Write, y56.Move, r64.1⟩ : GRule)] : List GRule) Try.underlying24 ti_49 zi_49 rfl rfl rfl (fun w hh => ⟨(GRule.rdmk (Rd.mk_int _ _ _) (Rd.mk_int _ _ _) (Rd.mk_int _ _ _)), trivial⟩)) (fun b66 => ?_)
                  refine JL_bnd fun z67 hz68 => ?_
                  refine JL_st (wants_none rfl) rfl (st_append 8 Try.underlying24 ti_49 zi_49 rfl bi_49 rfl rfl rfl rfl (fun w hh => hh.src_ow 0 rfl) hz68) (fun v69 => ?_)
                  refine JL_q (wants_none rfl) rfl (ex_fieldAddr fi_26_2 rfl rfl) ?_
                  refine JL_sk (wants_none rfl) (sk_store_bx' 9 ti_24 rfl rfl (fun w hh => (hh.cv_ow 8 rfl)) rfl rfl rfl rfl) ?_
                  refine JL_nil ?_
                  refine N_block ?_
                  refine N_then ?_
                  refine J_region ?_
                  refine JL_q (wants_none rfl) rfl (ex_add rfl rfl) ?_
                  refine JL_q (wants_none rfl) rfl (ex_move rfl) ?_
                  refine JL_nil ?_
                  exact N_next' v69 ⟨rfl, rfl, rfl, rfl, rfl, rfl, rfl, rfl, rfl, rfl, trivial⟩ [3, 4, 5, 6, 7, 8, 9, 10] rfl rfl
                · refine J_skip ?_
                  refine N_then ?_
                  refine J_region ?_
                  refine JL_q (wants_none rfl) rfl (ex_fieldAddr fi_26_2 rfl rfl) ?_
                  refine JL_q (wants_none rfl) rfl (ex_load_bx 8 ti_24 rfl rfl rfl) ?_
                  refine JL_q (wants_none rfl) rfl (ex_load_bx_agg 0 ti_49 rfl rfl rfl rfl) ?_
                  refine JL_st (wants_none rfl) rfl (st_buildSlice (vs := [.agg #[.int .i64 y56.Write, .int .i64 y56.Move, .int .i64 y56.Next]]) ([y56] : List GRule) Try.underlying24 ti_49 zi_49 rfl rfl rfl (fun w hh => ⟨(GRule.rdmk (Rd.mk_int _ _ _) (Rd.mk_int _ _ _) (Rd.mk_int _ _ _)), trivial⟩)) (fun b70 => ?_)
                  refine JL_bnd fun z71 hz72 => ?_
                  refine JL_st (wants_none rfl) rfl (st_append 8 Try.underlying24 ti_49 zi_49 rfl bi_49 rfl rfl rfl rfl (fun w hh => hh.src_ow 0 rfl) hz72) (fun v73 => ?_)
                  refine JL_q (wants_none rfl) rfl (ex_fieldAddr fi_26_2 rfl rfl) ?_
                  refine JL_sk (wants_none rfl) (sk_store_bx' 9 ti_24 rfl rfl (fun w hh => (hh.cv_ow 8 rfl)) rfl rfl rfl rfl) ?_
                  refine JL_nil ?_
                  refine N_block ?_
                  refine N_then ?_
                  refine J_region ?_
                  refine JL_q (wants_none rfl) rfl (ex_add rfl rfl) ?_
                  refine JL_q (wants_none rfl) rfl (ex_move rfl) ?_
                  refine JL_nil ?_
                  exact N_next' v73 ⟨rfl, rfl, rfl, rfl, rfl, rfl, rfl, rfl, rfl, rfl, trivial⟩ [3, 4, 5, 6, 7, 8, 9, 10] rfl rfl
              · refine J_exit ?_
                refine N_then_exit ?_
                exact N_break' g54 ⟨rfl, rfl, rfl, rfl, rfl, rfl, rfl, rfl, rfl, rfl, trivial⟩ [0, 1, 2, 3, 4, 5, 6, 7] rfl rfl
            · refine N_block ?_
              refine N_then ?_
              refine J_region ?_
              refine JL_q (wants_none rfl) rfl (ex_add rfl rfl) ?_
              refine JL_q (wants_none rfl) rfl (ex_move rfl) ?_
              refine JL_nil ?_
              exact N_next' g54 ⟨rfl, rfl, rfl, rfl, rfl, rfl, rfl, trivial⟩ [0, 1, 2, 3, 4, 5, 6] rfl rfl
          · refine J_exit ?_
            refine N_then_exit ?_
            exact N_break' g42 ⟨rfl, rfl, rfl, rfl, rfl, rfl, rfl, trivial⟩ [0, 1, 2, 3, 4, 5, 6] rfl rfl
        · refine N_then ?_
          refine J_seq ?_
          refine J_region ?_
          refine JL_q (wants_none rfl) rfl (ex_load_bx_agg 6 ti_26 rfl rfl rfl rfl) ?_
          refine JL_q (wants_none rfl) rfl (ex_move rfl) ?_
          refine JL_sk (wants_none rfl) (sk_store_bx' 0 ti_26 rfl rfl (fun w hh => (cv_aggs ⟨cv_int, cv_int, (hh.cv_ow 5 rfl), trivial⟩)) rfl rfl rfl rfl) ?_
          refine JL_q (wants_none rfl) rfl (ex_assign rfl) ?_
          refine JL_q (wants_none rfl) rfl (ex_assign rfl) ?_
          refine JL_nil ?_
          refine N_then ?_
          refine J_ret ?_
          exact N_ret3 rfl (rv_cell 0 rfl rfl ti_26 rfl) (rv_tmp rfl) (rv_tmp rfl) (fun w hh => ⟨(g42, g20), rfl, hh.sel [5, 4] rfl⟩)

set_option maxHeartbeats 40000000 in
theorem c_impl_allWithin (A : Nat → Prop) (w : World) (hA : ∀ k, A k → k < w.heap.size) (v0_ : Value) (p0 : (List Int)) (hp0 : Rd A w v0_ p0) (p1 : Int) (p2 : Int) (r : Bool) (hr : F_impl_allWithin p0 p1 p2 = some r) :
    Con Try.prog 60 [v0_, .int .i64 p1, .int .i64 p2] A w (fun x_ : Unit => .bool r) (fun x_ => []) := by
  refine Con_of (v := fun (r : Bool) (x_ : Unit) => .bool r) (fs := fun r x_ => []) Try.func60 rfl Try.ntmps60 rfl ((SH.start hA).start_rd rfl hp0) rfl ?_ hr
  unfold F_impl_allWithin
  refine J_seq ?_
  refine J_region ?_
  refine JL_q (wants_none rfl) rfl (ex_assign rfl) ?_
  refine JL_nil ?_
  refine N_then ?_
  refine J_seq ?_
  refine J_seq ?_
  refine J_region ?_
  refine JL_q (wants_none rfl) rfl (ex_move rfl) ?_
  refine JL_q (wants_none rfl) rfl (ex_len_rd 0 Try.underlying27 rfl rfl) ?_
  refine JL_q (wants_none rfl) rfl (ex_move rfl) ?_
  refine JL_nil ?_
  refine N_then ?_
  refine J_loop' (S := Int) (G := Unit) (F_impl_allWithin_L1 p0 p1 p2) (fun s1 _ => [(1, .int .i64 p1), (2, .int .i64 p2), (9, v0_), (10, .int .i64 (p0.length : Int)), (11, .int .i64 s1)]) (fun s1 _ => [.rd v0_ p0]) 0 () ⟨rfl, rfl, rfl, rfl, rfl, trivial⟩ [0] rfl rfl (fun s1 g2 => ?_) (fun s1 g2 => ?_)
  · unfold F_impl_allWithin_L1
    refine J_seq ?_
    refine J_region ?_
    refine JL_q (wants_none rfl) rfl (ex_lss rfl rfl) ?_
    refine JL_nil ?_
    refine N_then ?_
    refine J_seq ?_
    refine J_if rfl (fun h3 => ?_) (fun h3 => ?_)
    · refine J_skip ?_
      refine N_then ?_
      refine J_seq ?_
      refine J_block ?_
      refine J_seq ?_
      refine J_region ?_
      refine JL_bnd fun y4 hy5 => ?_
      refine JL_st (wants_none rfl) rfl (st_index 0 Try.underlying27 ti_2 rfl rfl rfl hy5) (fun q6 => ?_)
      refine JL_st (wants_none rfl) rfl (st_load_pt_o 0 (opens_int _) ti_2 rfl rfl) (fun _ => ?_)
      refine JL_q (wants_none rfl) rfl (ex_assign rfl) ?_
      refine JL_nil ?_
      refine N_then ?_
      refine J_seq ?_
      refine J_region ?_
      refine JL_q (wants_none rfl) rfl (ex_move rfl) ?_
      refine JL_q (wants_none rfl) rfl (ex_move rfl) ?_
      refine JL_q (wants_none rfl) rfl (ex_move rfl) ?_
      refine JL_bnd fun r8 hr9 => ?_
      refine JL_call (wants_none rfl) rfl Try.call22 rfl (Ca_of0 fun w hh => c_impl_within _ w (fun _ hk => hk.elim) _ _ _ _ hr9) (fun _ => ?_)
      refine JL_q (wants_none rfl) rfl (ex_not rfl) ?_
      refine JL_nil ?_
      refine N_then ?_
      refine J_if rfl (fun h10 => ?_) (fun h10 => ?_)
      · refine J_seq ?_
        refine J_region ?_
        refine JL_q (wants_none rfl) rfl (ex_assign rfl) ?_
        refine JL_nil ?_
        refine N_then ?_
        refine J_ret ?_
        refine N_block_ret ?_
        refine N_then_ret ?_
        refine N_round_ret ?_
        refine N_then_ret ?_
        exact N_ret1 rfl (rv_tmp rfl) (fun w hh => ⟨(), rfl, hh.sel [] rfl⟩)
      · refine J_skip ?_
        refine N_block ?_
        refine N_then ?_
        refine J_region ?_
        refine JL_q (wants_none rfl) rfl (ex_add rfl rfl) ?_
        refine JL_q (wants_none rfl) rfl (ex_move rfl) ?_
        refine JL_nil ?_
        exact N_next' () ⟨rfl, rfl, rfl, rfl, rfl, trivial⟩ [1] rfl rfl
    · refine J_exit ?_
      refine N_then_exit ?_
      exact N_break' () ⟨rfl, rfl, rfl, rfl, rfl, trivial⟩ [0] rfl rfl
  · refine N_then ?_
    refine J_seq ?_
    refine J_region ?_
    refine JL_q (wants_none rfl) rfl (ex_assign rfl) ?_
    refine JL_nil ?_
    refine N_then ?_
    refine J_ret ?_
    exact N_ret1 rfl (rv_tmp rfl) (fun w hh => ⟨(), rfl, hh.sel [] rfl⟩)

set_option maxHeartbeats 40000000 in
theorem c_impl_validSide (A : Nat → Prop) (w : World) (hA : ∀ k, A k → k < w.heap.size) (v0_ : Value) (p0 : (List Int)) (hp0 : Rd A w v0_ p0) (p1 : Int) (p2 : Int) (r : Bool) (hr : F_impl_validSide p0 p1 p2 = some r) :
    Con Try.prog 51 [v0_, .int .i64 p1, .int .i64 p2] A w (fun x_ : Unit => .bool r) (fun x_ => []) := by
  refine Con_of (v := fun (r : Bool) (x_ : Unit) => .bool r) (fs := fun r x_ => []) Try.func51 rfl Try.ntmps51 rfl ((SH.start hA).start_rd rfl hp0) rfl ?_ hr
  unfold F_impl_validSide
  refine J_seq ?_
  refine J_region ?_
  refine JL_q (wants_none rfl) rfl (ex_assign rfl) ?_
  refine JL_nil ?_
  refine N_then ?_
  refine J_seq ?_
  refine J_region ?_
  refine JL_q (wants_none rfl) rfl (ex_move rfl) ?_
  refine JL_bnd fun r1 hr2 => ?_
  refine JL_call (wants_none rfl) rfl Try.call20 rfl (Ca_of0 fun w hh => c_impl_size_int64 _ w (fun _ hk => hk.elim) _ _ (hh.rd0 0 rfl) _ hr2) (fun _ => ?_)
  refine JL_q (wants_none rfl) rfl (ex_move rfl) ?_
  refine JL_q (wants_none rfl) rfl (ex_leq rfl rfl) ?_
  refine JL_q (wants_none rfl) rfl (ex_move rfl) ?_
  refine JL_cond (fun h3 => ?_) (fun h3 => ?_)
  · refine JL_q (wants_some rfl rfl rfl h3) rfl (ex_move rfl) ?_
    refine JL_q (wants_some rfl rfl rfl h3) rfl (ex_move rfl) ?_
    refine JL_q (wants_some rfl rfl rfl h3) rfl (ex_sub rfl rfl) ?_
    refine JL_bnd fun r4 hr5 => ?_
    refine JL_call (wants_some rfl rfl rfl h3) rfl Try.call60 rfl (Ca_of0 fun w hh => c_impl_allWithin _ w (fun _ hk => hk.elim) _ _ (hh.rd0 0 rfl) _ _ _ hr5) (fun _ => ?_)
    refine JL_q (wants_none rfl) rfl (ex_pick_true rfl h3 rfl) ?_
    refine JL_q (wants_none rfl) rfl (ex_move rfl) ?_
    refine JL_cond (fun h6 => ?_) (fun h6 => ?_)
    · refine JL_q (wants_some rfl rfl rfl h6) rfl (ex_move rfl) ?_
      refine JL_q (wants_some rfl rfl rfl h6) rfl (ex_len_rd 0 Try.underlying27 rfl rfl) ?_
      refine JL_q (wants_some rfl rfl rfl h6) rfl (ex_eql rfl rfl) ?_
      refine JL_q (wants_some rfl rfl rfl h6) rfl (ex_move rfl) ?_
      refine JL_cond (fun h7 => ?_) (fun h7 => ?_)
      · refine JL_passed rfl rfl rfl h7 ?_
        refine JL_passed rfl rfl rfl h7 ?_
        refine JL_passed rfl rfl rfl h7 ?_
        refine JL_passed rfl rfl rfl h7 ?_
        refine JL_passed rfl rfl rfl h7 ?_
        refine JL_passed rfl rfl rfl h7 ?_
        refine JL_passed rfl rfl rfl h7 ?_
        refine JL_q (wants_some rfl rfl rfl h6) rfl (ex_pick_true rfl h7 rfl) ?_
        refine JL_q (wants_none rfl) rfl (ex_pick_true rfl h6 rfl) ?_
        refine JL_q (wants_none rfl) rfl (ex_assign rfl) ?_
        refine JL_nil ?_
        refine N_then ?_
        refine J_ret ?_
        exact N_ret1 rfl (rv_tmp rfl) (fun w hh => ⟨(), rfl, hh.sel [] rfl⟩)
      · refine JL_q (wants_some rfl rfl rfl h7) rfl (ex_move rfl) ?_
        refine JL_q (wants_some rfl rfl rfl h7) rfl (ex_move rfl) ?_
        refine JL_q (wants_some rfl rfl rfl h7) rfl (ex_len_rd 0 Try.underlying27 rfl rfl) ?_
        refine JL_q (wants_some rfl rfl rfl h7) rfl (ex_sub rfl rfl) ?_
        refine JL_bnd fun y8 hy9 => ?_
        refine JL_st (wants_some rfl rfl rfl h7) rfl (st_index 0 Try.underlying27 ti_2 rfl rfl rfl hy9) (fun q10 => ?_)
        refine JL_st (wants_some rfl rfl rfl h7) rfl (st_load_pt_o 0 (opens_int _) ti_2 rfl rfl) (fun _ => ?_)
        refine JL_q (wants_some rfl rfl rfl h7) rfl (ex_neq rfl rfl) ?_
        refine JL_q (wants_some rfl rfl rfl h6) rfl (ex_pick_false rfl h7 rfl) ?_
        refine JL_q (wants_none rfl) rfl (ex_pick_true rfl h6 rfl) ?_
        refine JL_q (wants_none rfl) rfl (ex_assign rfl) ?_
        refine JL_nil ?_
        refine N_then ?_
        refine J_ret ?_
        exact N_ret1 rfl (rv_tmp rfl) (fun w hh => ⟨(), rfl, hh.sel [] rfl⟩)
    · refine JL_passed rfl rfl rfl h6 ?_
      refine JL_passed rfl rfl rfl h6 ?_
      refine JL_passed rfl rfl rfl h6 ?_
      refine JL_passed rfl rfl rfl h6 ?_
      refine JL_passed_undef rfl rfl rfl ?_
      refine JL_passed_undef rfl rfl rfl ?_
      refine JL_passed_undef rfl rfl rfl ?_
      refine JL_passed_undef rfl rfl rfl ?_
      refine JL_passed_undef rfl rfl rfl ?_
      refine JL_passed_undef rfl rfl rfl ?_
      refine JL_passed_undef rfl rfl rfl ?_
      refine JL_passed rfl rfl rfl h6 ?_
      refine JL_q (wants_none rfl) rfl (ex_pick_false rfl h6 rfl) ?_
      refine JL_q (wants_none rfl) rfl (ex_assign rfl) ?_
      refine JL_nil ?_
      refine N_then ?_
      refine J_ret ?_
      exact N_ret1 rfl (rv_tmp rfl) (fun w hh => ⟨(), rfl, hh.sel [] rfl⟩)
  · refine JL_passed rfl rfl rfl h3 ?_
    refine JL_passed rfl rfl rfl h3 ?_
    refine JL_passed rfl rfl rfl h3 ?_
    refine JL_passed rfl rfl rfl h3 ?_
    refine JL_q (wants_none rfl) rfl (ex_pick_false rfl h3 rfl) ?_
    refine JL_q (wants_none rfl) rfl (ex_move rfl) ?_
    refine JL_passed rfl rfl rfl rfl ?_
    refine JL_passed rfl rfl rfl rfl ?_
    refine JL_passed rfl rfl rfl rfl ?_
    refine JL_passed rfl rfl rfl rfl ?_
    refine JL_passed_undef rfl rfl rfl ?_
    refine JL_passed_undef rfl rfl rfl ?_
    refine JL_passed_undef rfl rfl rfl ?_
    refine JL_passed_undef rfl rfl rfl ?_
    refine JL_passed_undef rfl rfl rfl ?_
    refine JL_passed_undef rfl rfl rfl ?_
    refine JL_passed_undef rfl rfl rfl ?_
    refine JL_passed rfl rfl rfl rfl ?_
    refine JL_q (wants_none rfl) rfl (ex_pick_false rfl rfl rfl) ?_
    refine JL_q (wants_none rfl) rfl (ex_assign rfl) ?_
    refine JL_nil ?_
    refine N_then ?_
    refine J_ret ?_
    exact N_ret1 rfl (rv_tmp rfl) (fun w hh => ⟨(), rfl, hh.sel [] rfl⟩)

set_option maxHeartbeats 40000000 in
theorem c_impl_configOf (A : Nat → Prop) (w : World) (hA : ∀ k, A k → k < w.heap.size) (v0_ : Value) (p0 : GMachine) (hp0 : Rd A w v0_ p0) (v1_ : Value) (p1 : GConfig) (hp1 : Rd A w v1_ p1) (r : Bool) (hr : F_impl_configOf p0 p1 = some r) :
    Con Try.prog 42 [v0_, v1_] A w (fun x_ : Unit => .bool r) (fun x_ => []) := by
  obtain ⟨v0_0, rfl, hp0_0⟩ := GMachine.open hp0
  obtain ⟨v1_0, v1_1, rfl, hp1_0, hp1_1⟩ := GConfig.open hp1
  refine Con_of (v := fun (r : Bool) (x_ : Unit) => .bool r) (fs := fun r x_ => []) Try.func42 rfl Try.ntmps42 rfl ((((SH.start hA).start_rd rfl hp0_0).start_rd rfl hp1_0).start_rd rfl hp1_1) rfl ?_ hr
  unfold F_impl_configOf
  refine J_seq ?_
  refine J_region ?_
  refine JL_st (wants_none rfl) rfl (st_box' rfl (fun w hh => (cv_aggs ⟨cv_int, cv_int, (hh.cv 2 rfl), trivial⟩))) (fun b1 => ?_)
  refine JL_st (wants_none rfl) rfl (st_box' rfl (fun w hh => (cv_aggs ⟨cv_int, (hh.cv 2 rfl), (hh.cv 1 rfl), trivial⟩))) (fun b2 => ?_)
  refine JL_q (wants_none rfl) rfl (ex_assign rfl) ?_
  refine JL_nil ?_
  refine N_then ?_
  refine J_seq ?_
  refine J_region ?_
  refine JL_q (wants_none rfl) rfl (ex_fieldAddr fi_29_0 rfl rfl) ?_
  refine JL_q (wants_none rfl) rfl (ex_load_bx 0 ti_2 rfl rfl rfl) ?_
  refine JL_q (wants_none rfl) rfl (ex_fieldAddr fi_26_1 rfl rfl) ?_
  refine JL_q (wants_none rfl) rfl (ex_load_bx 1 ti_2 rfl rfl rfl) ?_
  refine JL_q (wants_none rfl) rfl (ex_sub rfl rfl) ?_
  refine JL_bnd fun r3 hr4 => ?_
  refine JL_call (wants_none rfl) rfl Try.call22 rfl (Ca_of0 fun w hh => c_impl_within _ w (fun _ hk => hk.elim) _ _ _ _ hr4) (fun _ => ?_)
  refine JL_q (wants_none rfl) rfl (ex_move rfl) ?_
  refine JL_cond (fun h5 => ?_) (fun h5 => ?_)
  · refine JL_q (wants_some rfl rfl rfl h5) rfl (ex_fieldAddr fi_29_1 rfl rfl) ?_
    refine JL_q (wants_some rfl rfl rfl h5) rfl (ex_load_bx 0 ti_27 rfl rfl rfl) ?_
    refine JL_q (wants_some rfl rfl rfl h5) rfl (ex_fieldAddr fi_26_0 rfl rfl) ?_
    refine JL_q (wants_some rfl rfl rfl h5) rfl (ex_load_bx 1 ti_2 rfl rfl rfl) ?_
    refine JL_bnd fun r6 hr7 => ?_
    refine JL_call (wants_some rfl rfl rfl h5) rfl Try.call51 rfl (Ca_of0 fun w hh => c_impl_validSide _ w (fun _ hk => hk.elim) _ _ (hh.rd0 3 rfl) _ _ _ hr7) (fun _ => ?_)
    refine JL_q (wants_none rfl) rfl (ex_pick_true rfl h5 rfl) ?_
    refine JL_q (wants_none rfl) rfl (ex_move rfl) ?_
    refine JL_cond (fun h8 => ?_) (fun h8 => ?_)
    · refine JL_q (wants_some rfl rfl rfl h8) rfl (ex_fieldAddr fi_29_2 rfl rfl) ?_
      refine JL_q (wants_some rfl rfl rfl h8) rfl (ex_load_bx 0 ti_27 rfl rfl rfl) ?_
      refine JL_q (wants_some rfl rfl rfl h8) rfl (ex_fieldAddr fi_26_0 rfl rfl) ?_
      refine JL_q (wants_some rfl rfl rfl h8) rfl (ex_load_bx 1 ti_2 rfl rfl rfl) ?_
      refine JL_bnd fun r9 hr10 => ?_
      refine JL_call (wants_some rfl rfl rfl h8) rfl Try.call51 rfl (Ca_of0 fun w hh => c_impl_validSide _ w (fun _ hk => hk.elim) _ _ (hh.rd0 2 rfl) _ _ _ hr10) (fun _ => ?_)
      refine JL_q (wants_none rfl) rfl (ex_pick_true rfl h8 rfl) ?_
      refine JL_q (wants_none rfl) rfl (ex_assign rfl) ?_
      refine JL_nil ?_
      refine N_then ?_
      refine J_ret ?_
      exact N_ret1 rfl (rv_tmp rfl) (fun w hh => ⟨(), rfl, hh.sel [] rfl⟩)
    · refine JL_passed rfl rfl rfl h8 ?_
      refine JL_passed rfl rfl rfl h8 ?_
      refine JL_passed rfl rfl rfl h8 ?_
      refine JL_passed rfl rfl rfl h8 ?_
      refine JL_passed rfl rfl rfl h8 ?_
      refine JL_q (wants_none rfl) rfl (ex_pick_false rfl h8 rfl) ?_
      refine JL_q (wants_none rfl) rfl (ex_assign rfl) ?_
      refine JL_nil ?_
      refine N_then ?_
      refine J_ret ?_
      exact N_ret1 rfl (rv_tmp rfl) (fun w hh => ⟨(), rfl, hh.sel [] rfl⟩)
  · refine JL_passed rfl rfl rfl h5 ?_
    refine JL_passed rfl rfl rfl h5 ?_
    refine JL_passed rfl rfl rfl h5 ?_
    refine JL_passed rfl rfl rfl h5 ?_
    refine JL_passed rfl rfl rfl h5 ?_
    refine JL_q (wants_none rfl) rfl (ex_pick_false rfl h5 rfl) ?_
    refine JL_q (wants_none rfl) rfl (ex_move rfl) ?_
    refine JL_passed rfl rfl rfl rfl ?_
    refine JL_passed rfl rfl rfl rfl ?_
    refine JL_passed rfl rfl rfl rfl ?_
    refine JL_passed rfl rfl rfl rfl ?_
    refine JL_passed rfl rfl rfl rfl ?_
    refine JL_q (wants_none rfl) rfl (ex_pick_false rfl rfl rfl) ?_
    refine JL_q (wants_none rfl) rfl (ex_assign rfl) ?_
    refine JL_nil ?_
    refine N_then ?_
    refine J_ret ?_
    exact N_ret1 rfl (rv_tmp rfl) (fun w hh => ⟨(), rfl, hh.sel [] rfl⟩)

set_option maxHeartbeats 40000000 in
theorem c_impl_ValidConfig (A : Nat → Prop) (w : World) (hA : ∀ k, A k → k < w.heap.size) (v0_ : Value) (p0 : GMachine) (hp0 : Rd A w v0_ p0) (v1_ : Value) (p1 : GConfig) (hp1 : Rd A w v1_ p1) (r : Bool) (hr : F_impl_ValidConfig p0 p1 = some r) :
    Con Try.prog 27 [v0_, v1_] A w (fun x_ : Unit => .bool r) (fun x_ => []) := by
  obtain ⟨v0_0, rfl, hp0_0⟩ := GMachine.open hp0
  obtain ⟨v1_0, v1_1, rfl, hp1_0, hp1_1⟩ := GConfig.open hp1
  refine Con_of (v := fun (r : Bool) (x_ : Unit) => .bool r) (fs := fun r x_ => []) Try.func27 rfl Try.ntmps27 rfl ((((SH.start hA).start_rd rfl hp0_0).start_rd rfl hp1_0).start_rd rfl hp1_1) rfl ?_ hr
  unfold F_impl_ValidConfig
  refine J_seq ?_
  refine J_region ?_
  refine JL_st (wants_none rfl) rfl (st_box' rfl (fun w hh => (cv_aggs ⟨cv_int, cv_int, (hh.cv 2 rfl), trivial⟩))) (fun b1 => ?_)
  refine JL_st (wants_none rfl) rfl (st_box' rfl (fun w hh => (cv_aggs ⟨cv_int, (hh.cv 2 rfl), (hh.cv 1 rfl), trivial⟩))) (fun b2 => ?_)
  refine JL_q (wants_none rfl) rfl (ex_assign rfl) ?_
  refine JL_nil ?_
  refine N_then ?_
  refine J_seq ?_
  refine J_region ?_
  refine JL_q (wants_none rfl) rfl (ex_load_bx_agg 1 ti_26 rfl rfl rfl rfl) ?_
  refine JL_bnd fun r3 hr4 => ?_
  refine JL_call (wants_none rfl) rfl Try.call7 rfl (Ca_of0 fun w hh => c_impl_ValidMachine _ w (fun _ hk => hk.elim) _ _ (GMachine.rdmk (Rd.mk_int _ _ _) (Rd.mk_int _ _ _) (hh.rd0 4 rfl)) _ hr4) (fun _ => ?_)
  refine JL_q (wants_none rfl) rfl (ex_move rfl) ?_
  refine JL_cond (fun h5 => ?_) (fun h5 => ?_)
  · refine JL_q (wants_some rfl rfl rfl h5) rfl (ex_load_bx_agg 1 ti_26 rfl rfl rfl rfl) ?_
    refine JL_q (wants_some rfl rfl rfl h5) rfl (ex_load_bx_agg 0 ti_29 rfl rfl rfl rfl) ?_
    refine JL_bnd fun r6 hr7 => ?_
    refine JL_call (wants_some rfl rfl rfl h5) rfl Try.call42 rfl (Ca_of0 fun w hh => c_impl_configOf _ w (fun _ hk => hk.elim) _ _ (GMachine.rdmk (Rd.mk_int _ _ _) (Rd.mk_int _ _ _) (hh.rd0 4 rfl)) _ _ (GConfig.rdmk (Rd.mk_int _ _ _) (hh.rd0 3 rfl) (hh.rd0 2 rfl)) _ hr7) (fun _ => ?_)
    refine JL_q (wants_none rfl) rfl (ex_pick_true rfl h5 rfl) ?_
    refine JL_q (wants_none rfl) rfl (ex_assign rfl) ?_
    refine JL_nil ?_
    refine N_then ?_
    refine J_ret ?_
    exact N_ret1 rfl (rv_tmp rfl) (fun w hh => ⟨(), rfl, hh.sel [] rfl⟩)
  · refine JL_passed rfl rfl rfl h5 ?_
    refine JL_passed rfl rfl rfl h5 ?_
    refine JL_passed rfl rfl rfl h5 ?_
    refine JL_q (wants_none rfl) rfl (ex_pick_false rfl h5 rfl) ?_
    refine JL_q (wants_none rfl) rfl (ex_assign rfl) ?_
    refine JL_nil ?_
    refine N_then ?_
    refine J_ret ?_
    exact N_ret1 rfl (rv_tmp rfl) (fun w hh => ⟨(), rfl, hh.sel [] rfl⟩)

set_option maxHeartbeats 40000000 in
theorem c_impl_budgetOk (A : Nat → Prop) (w : World) (hA : ∀ k, A k → k < w.heap.size) (p0 : Int) (r : Bool) (hr : F_impl_budgetOk p0 = some r) :
    Con Try.prog 28 [.int .i64 p0] A w (fun x_ : Unit => .bool r) (fun x_ => []) := by
  refine Con_of (v := fun (r : Bool) (x_ : Unit) => .bool r) (fs := fun r x_ => []) Try.func28 rfl Try.ntmps28 rfl (SH.start hA) rfl ?_ hr
  unfold F_impl_budgetOk
  refine J_seq ?_
  refine J_region ?_
  refine JL_q (wants_none rfl) rfl (ex_assign rfl) ?_
  refine JL_nil ?_
  refine N_then ?_
  refine J_seq ?_
  refine J_region ?_
  refine JL_q (wants_none rfl) rfl (ex_move rfl) ?_
  refine JL_bnd fun r1 hr2 => ?_
  refine JL_call (wants_none rfl) rfl Try.call22 rfl (Ca_of0 fun w hh => c_impl_within _ w (fun _ hk => hk.elim) _ _ _ _ hr2) (fun _ => ?_)
  refine JL_q (wants_none rfl) rfl (ex_assign rfl) ?_
  refine JL_nil ?_
  refine N_then ?_
  refine J_ret ?_
  exact N_ret1 rfl (rv_tmp rfl) (fun w hh => ⟨(), rfl, hh.sel [] rfl⟩)

set_option maxHeartbeats 40000000 in
theorem c_slices_Clone_Sint64_int64 (A : Nat → Prop) (w : World) (hA : ∀ k, A k → k < w.heap.size) (v0_ : Value) (p0 : (List Int)) (hp0 : Rd A w v0_ p0) (r : (List Int)) (hr : F_slices_Clone_Sint64_int64 p0 = some r) :
    Con Try.prog 52 [v0_] A w (fun x_ : Value => x_) (fun x_ => [.ow 2 x_ r]) := by
  refine Con_of (v := fun (r : (List Int)) (x_ : Value) => x_) (fs := fun r x_ => [.ow 2 x_ r]) Try.func52 rfl Try.ntmps52 rfl ((SH.start hA).start_rd rfl hp0) rfl ?_ hr
  unfold F_slices_Clone_Sint64_int64
  refine J_seq ?_
  refine J_region ?_
  refine JL_q (wants_none rfl) rfl (ex_assign rfl) ?_
  refine JL_nil ?_
  refine N_then ?_
  refine J_seq ?_
  refine J_seq ?_
  refine J_region ?_
  refine JL_q (wants_none rfl) rfl (ex_move rfl) ?_
  refine JL_eqnil 0 Try.underlying27 rfl rfl (wants_none rfl) rfl (fun hx1 => ?_) ?_
  · refine JL_conv (E' := (some ([] : (List Int)))) (by rw [hx1]; rfl) ?_
    refine JL_nil ?_
    refine N_then ?_
    refine J_if_true rfl rfl ?_
    refine J_seq ?_
    refine J_region ?_
    refine JL_q (wants_none rfl) rfl (ex_assign rfl) ?_
    refine JL_nil ?_
    refine N_then ?_
    refine J_ret ?_
    refine N_then_ret ?_
    refine N_ctx (fun w hh => SH.ow_nil (α := Int) 2 hh) ?_
    exact N_ret1 rfl (rv_tmp rfl) (fun w hh => ⟨(.slice none 0 0 : Value), rfl, hh.sel [0] rfl⟩)
  · refine JL_nil ?_
    refine N_then ?_
    refine J_if_false rfl rfl ?_
    refine J_skip ?_
    refine N_then ?_
    refine J_seq ?_
    refine J_region ?_
    refine JL_st (wants_none rfl) rfl (st_buildSlice (vs := []) ([] : List Int) Try.underlying27 ti_2 zi_2 rfl rfl rfl (fun w hh => trivial)) (fun b2 => ?_)
    refine JL_q (wants_none rfl) rfl (ex_move rfl) ?_
    refine JL_bnd fun z3 hz4 => ?_
    refine JL_st (wants_none rfl) rfl (st_append 0 Try.underlying27 ti_2 zi_2 rfl bi_2 rfl rfl rfl rfl (fun w hh => hh.src_rd 1 rfl) hz4) (fun v5 => ?_)
    refine JL_q (wants_none rfl) rfl (ex_assign rfl) ?_
    refine JL_nil ?_
    refine N_then ?_
    refine J_ret ?_
    exact N_ret1 rfl (rv_tmp rfl) (fun w hh => ⟨v5, rfl, hh.sel [0] rfl⟩)

set_option maxHeartbeats 40000000 in
theorem c_impl_reversed (A : Nat → Prop) (w : World) (hA : ∀ k, A k → k < w.heap.size) (v0_ : Value) (p0 : (List Int)) (hp0 : Rd A w v0_ p0) (r : (List Int)) (hr : F_impl_reversed p0 = some r) :
    Con Try.prog 43 [v0_] A w (fun x_ : Value => x_) (fun x_ => [.ow 2 x_ r]) := by
  refine Con_of (v := fun (r : (List Int)) (x_ : Value) => x_) (fs := fun r x_ => [.ow 2 x_ r]) Try.func43 rfl Try.ntmps43 rfl ((SH.start hA).start_rd rfl hp0) rfl ?_ hr
  unfold F_impl_reversed
  refine J_seq ?_
  refine J_region ?_
  refine JL_q (wants_none rfl) rfl (ex_assign rfl) ?_
  refine JL_nil ?_
  refine N_then ?_
  refine J_seq ?_
  refine J_region ?_
  refine JL_q (wants_none rfl) rfl (ex_move rfl) ?_
  refine JL_bnd fun r1 hr2 => ?_
  refine JL_call (wants_none rfl) rfl Try.call52 rfl (Ca_self (fun _ => rfl) fun w hh => c_slices_Clone_Sint64_int64 _ w (fun _ hk => hk.elim) _ _ (hh.rd0 0 rfl) _ hr2) (fun x3 => ?_)
  refine JL_q (wants_none rfl) rfl (ex_assign rfl) ?_
  refine JL_nil ?_
  refine N_then ?_
  refine J_seq ?_
  refine J_region ?_
  refine JL_q (wants_none rfl) rfl (ex_move rfl) ?_
  refine JL_inline (wants_none rfl) rfl Try.call53 rfl Try.func53 rfl Try.ntmps53 rfl rfl (fun K_ hK4 => ?_)
  refine J_seq ?_
  refine J_region ?_
  refine JL_q (wants_none rfl) rfl (ex_move rfl) ?_
  refine JL_q (wants_none rfl) rfl (ex_len_ow 0 Try.underlying27 rfl rfl) ?_
  refine JL_q (wants_none rfl) rfl (ex_sub rfl rfl) ?_
  refine JL_q (wants_none rfl) rfl (ex_assign rfl) ?_
  refine JL_q (wants_none rfl) rfl (ex_assign rfl) ?_
  refine JL_nil ?_
  refine N_then ?_
  refine J_loop' (S := (List Int) × Int × Int) (G := Unit) (F_impl_reversed_L1) (fun s5 _ => [(0, x3), (2, .int .i64 s5.2.1), (3, .int .i64 s5.2.2)]) (fun s5 _ => [.ow 2 x3 s5.1]) (r1, 0, (w64 ((r1.length : Int) - 1))) () ⟨rfl, rfl, rfl, trivial⟩ [0] rfl rfl (fun s5 g6 => ?_) (fun s5 g6 => ?_)
  · unfold F_impl_reversed_L1
    refine J_seq ?_
    refine J_seq ?_
    refine J_region ?_
    refine JL_q (wants_none rfl) rfl (ex_move rfl) ?_
    refine JL_q (wants_none rfl) rfl (ex_move rfl) ?_
    refine JL_q (wants_none rfl) rfl (ex_lss rfl rfl) ?_
    refine JL_nil ?_
    refine N_then ?_
    refine J_if rfl (fun h7 => ?_) (fun h7 => ?_)
    · refine J_skip ?_
      refine N_then ?_
      refine J_seq ?_
      refine J_block ?_
      refine J_draw [0] (by kernel_rfl) ?_
      refine JP_take (i := 0) [] [0] rfl (by kernel_rfl) (by kernel_rfl) (by kernel_rfl) rfl rfl (wants_none rfl) rfl (ex_move rfl) ?_
      refine JP_take (i := 1) [] [0] rfl (by kernel_rfl) (by kernel_rfl) (by kernel_rfl) rfl rfl (wants_none rfl) rfl (ex_move rfl) ?_
      refine JP_take (i := 2) [] [0] rfl (by kernel_rfl) (by kernel_rfl) (by kernel_rfl) rfl rfl (wants_none rfl) rfl (ex_move rfl) ?_
      refine JP_take (i := 3) [] [0] rfl (by kernel_rfl) (by kernel_rfl) (by kernel_rfl) rfl rfl (wants_none rfl) rfl (ex_move rfl) ?_
      refine JP_take (i := 4) [] [0] rfl (by kernel_rfl) (by kernel_rfl) (by kernel_rfl) rfl rfl (wants_none rfl) rfl (ex_move rfl) ?_
      refine JP_take (i := 5) [] [0] rfl (by kernel_rfl) (by kernel_rfl) (by kernel_rfl) rfl rfl (wants_none rfl) rfl (ex_move rfl) ?_
      refine JP_bnd fun y8 hy9 => ?_
      refine JP_ow_open (v := x3) 0 rfl hy9 ?_; rintro b10 cap11 rfl
      refine JP_take (i := 6) [] [0] rfl (by kernel_rfl) (by kernel_rfl) (by kernel_rfl) rfl rfl (wants_none rfl) rfl (ex_index_own Try.underlying27 ti_2 rfl rfl hy9 (by first | rfl | simp)) ?_
      refine JP_take (i := 8) [] [0] rfl (by kernel_rfl) (by kernel_rfl) (by kernel_rfl) rfl rfl (wants_none rfl) rfl (ex_move rfl) ?_
      refine JP_take (i := 9) [] [0] rfl (by kernel_rfl) (by kernel_rfl) (by kernel_rfl) rfl rfl (wants_none rfl) rfl (ex_move rfl) ?_
      refine JP_bnd fun y12 hy13 => ?_
      refine JP_take (i := 10) [] [0] rfl (by kernel_rfl) (by kernel_rfl) (by kernel_rfl) rfl rfl (wants_none rfl) rfl (ex_index_own Try.underlying27 ti_2 rfl rfl hy13 (by first | rfl | simp)) ?_
      refine JP_go [] [0] rfl rfl rfl (fun w15 h1_16 hp14 => ?_)
      refine JD_two (i := 7) (j := 11) (by kernel_rfl) ?_ ?_
      · refine JO_q rfl (wants_none rfl) rfl (ex_load_ow_int 0 ti_2 rfl rfl hy9) ?_
        refine JD_one (i := 11) (by kernel_rfl) ?_
        refine JO_q rfl (wants_none rfl) rfl (ex_load_ow_int 0 ti_2 rfl rfl hy13) ?_
        refine JD_bnd fun y19 hy20 => ?_
        refine JD_take (i := 12) hp14 rfl (by kernel_rfl) (by kernel_rfl) (by kernel_rfl) (wants_none rfl) rfl (ex_index_own Try.underlying27 ti_2 rfl rfl hy20 (by first | rfl | simp)) ?_
        refine JD_one (i := 13) (by kernel_rfl) ?_
        refine JO_sk rfl (wants_none rfl) (sk_store_ow 0 ti_2 rfl rfl rfl hy20 (fun w hh => (Rd.mk_int _ _ _))) (sub_owl 0 rfl) ?_
        refine JD_bnd fun y21 hy22 => ?_
        refine JD_one (i := 14) (by kernel_rfl) ?_
        refine JO_q rfl (wants_none rfl) rfl (ex_index_ow 0 Try.underlying27 ti_2 rfl rfl rfl hy22) ?_
        refine JD_one (i := 15) (by kernel_rfl) ?_
        refine JO_sk rfl (wants_none rfl) (sk_store_ow 0 ti_2 rfl rfl rfl hy22 (fun w hh => (Rd.mk_int _ _ _))) (sub_owl 0 rfl) ?_
        refine JD_done (by kernel_rfl) ?_
        refine N_block ?_
        refine N_then ?_
        refine J_region ?_
        refine JL_q (wants_none rfl) rfl (ex_move rfl) ?_
        refine JL_q (wants_none rfl) rfl (ex_add rfl rfl) ?_
        refine JL_q (wants_none rfl) rfl (ex_move rfl) ?_
        refine JL_q (wants_none rfl) rfl (ex_sub rfl rfl) ?_
        refine JL_q (wants_none rfl) rfl (ex_assign rfl) ?_
        refine JL_q (wants_none rfl) rfl (ex_assign rfl) ?_
        refine JL_nil ?_
        exact N_next' () ⟨rfl, rfl, rfl, trivial⟩ [0] rfl rfl
      · refine JO_q rfl (wants_none rfl) rfl (ex_load_ow_int 0 ti_2 rfl rfl hy13) ?_
        refine JD_one (i := 7) (by kernel_rfl) ?_
        refine JO_q rfl (wants_none rfl) rfl (ex_load_ow_int 0 ti_2 rfl rfl hy9) ?_
        refine JD_bnd fun y25 hy26 => ?_
        refine JD_take (i := 12) hp14 rfl (by kernel_rfl) (by kernel_rfl) (by kernel_rfl) (wants_none rfl) rfl (ex_index_own Try.underlying27 ti_2 rfl rfl hy26 (by first | rfl | simp)) ?_
        refine JD_one (i := 13) (by kernel_rfl) ?_
        refine JO_sk rfl (wants_none rfl) (sk_store_ow 0 ti_2 rfl rfl rfl hy26 (fun w hh => (Rd.mk_int _ _ _))) (sub_owl 0 rfl) ?_
        refine JD_bnd fun y27 hy28 => ?_
        refine JD_one (i := 14) (by kernel_rfl) ?_
        refine JO_q rfl (wants_none rfl) rfl (ex_index_ow 0 Try.underlying27 ti_2 rfl rfl rfl hy28) ?_
        refine JD_one (i := 15) (by kernel_rfl) ?_
        refine JO_sk rfl (wants_none rfl) (sk_store_ow 0 ti_2 rfl rfl rfl hy28 (fun w hh => (Rd.mk_int _ _ _))) (sub_owl 0 rfl) ?_
        refine JD_done (by kernel_rfl) ?_
        refine N_block ?_
        refine N_then ?_
        refine J_region ?_
        refine JL_q (wants_none rfl) rfl (ex_move rfl) ?_
        refine JL_q (wants_none rfl) rfl (ex_add rfl rfl) ?_
        refine JL_q (wants_none rfl) rfl (ex_move rfl) ?_
        refine JL_q (wants_none rfl) rfl (ex_sub rfl rfl) ?_
        refine JL_q (wants_none rfl) rfl (ex_assign rfl) ?_
        refine JL_q (wants_none rfl) rfl (ex_assign rfl) ?_
        refine JL_nil ?_
        exact N_next' () ⟨rfl, rfl, rfl, trivial⟩ [0] rfl rfl
    · refine J_exit ?_
      refine N_then_exit ?_
      exact N_break' () ⟨rfl, rfl, rfl, trivial⟩ [0] rfl rfl
  · refine N_inl0 (.inr rfl) hK4 rfl ?_
    refine JL_nil ?_
    refine N_then ?_
    refine J_seq ?_
    refine J_region ?_
    refine JL_q (wants_none rfl) rfl (ex_move rfl) ?_
    refine JL_q (wants_none rfl) rfl (ex_assign rfl) ?_
    refine JL_nil ?_
    refine N_then ?_
    refine J_ret ?_
    exact N_ret1 rfl (rv_tmp rfl) (fun w hh => ⟨x3, rfl, hh.sel [0] rfl⟩)

end Go.Proofs.Ytabpcmbohmodnaa
