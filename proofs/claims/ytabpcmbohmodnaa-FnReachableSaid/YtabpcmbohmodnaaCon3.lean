/-
  Each function of the program computes what its plain function says: printed by program. No condition.
-/
import Derived.Test.YtabpcmbohmodnaaFn
import Derived.Test.YtabpcmbohmodnaaInf
import Derived.Test.YtabpcmbohmodnaaCon2
namespace Go.Proofs.Ytabpcmbohmodnaa
open Go Go.Tc Go.Fn
set_option linter.unusedVariables false

set_option maxHeartbeats 40000000 in
theorem c_impl_runnerOf (A : Nat → Prop) (w : World) (hA : ∀ k, A k → k < w.heap.size) (v0_ : Value) (p0 : GMachine) (hp0 : Rd A w v0_ p0) (v1_ : Value) (p1 : GConfig) (hp1 : Rd A w v1_ p1) (r : (Int × Int × (List GRule) × Int × (List Int) × (List Int))) (hr : F_impl_runnerOf p0 p1 = some r) :
    Con Try.prog 29 [v0_, v1_] A w (fun x_ : Value × Value × Value × Nat => .pointer (some ⟨x_.2.2.2, 0, none⟩)) (fun x_ => [.rd x_.1 r.2.2.1, .ow 2 x_.2.1 r.2.2.2.2.1, .ow 2 x_.2.2.1 r.2.2.2.2.2, .bx x_.2.2.2 78 [.int .i64 r.1, .int .i64 r.2.1, x_.1, .int .i64 r.2.2.2.1, x_.2.1, x_.2.2.1]]) := by
  obtain ⟨v0_0, rfl, hp0_0⟩ := GMachine.open hp0
  obtain ⟨v1_0, v1_1, rfl, hp1_0, hp1_1⟩ := GConfig.open hp1
  refine Con_of (v := fun (r : (Int × Int × (List GRule) × Int × (List Int) × (List Int))) (x_ : Value × Value × Value × Nat) => .pointer (some ⟨x_.2.2.2, 0, none⟩)) (fs := fun r x_ => [.rd x_.1 r.2.2.1, .ow 2 x_.2.1 r.2.2.2.2.1, .ow 2 x_.2.2.1 r.2.2.2.2.2, .bx x_.2.2.2 78 [.int .i64 r.1, .int .i64 r.2.1, x_.1, .int .i64 r.2.2.2.1, x_.2.1, x_.2.2.1]]) Try.func29 rfl Try.ntmps29 rfl ((((SH.start hA).start_rd rfl hp0_0).start_rd rfl hp1_0).start_rd rfl hp1_1) rfl ?_ hr
  unfold F_impl_runnerOf
  refine J_seq ?_
  refine J_region ?_
  refine JL_st (wants_none rfl) rfl (st_box' rfl (fun w hh => (cv_aggs ⟨cv_int, cv_int, (hh.cv 2 rfl), trivial⟩))) (fun b1 => ?_)
  refine JL_st (wants_none rfl) rfl (st_box' rfl (fun w hh => (cv_aggs ⟨cv_int, (hh.cv 2 rfl), (hh.cv 1 rfl), trivial⟩))) (fun b2 => ?_)
  refine JL_q (wants_none rfl) rfl (ex_assign rfl) ?_
  refine JL_nil ?_
  refine N_then ?_
  refine J_seq ?_
  refine J_draw [] (by kernel_rfl) ?_
  refine JP_take (i := 0) [0, 1, 2, 3, 4] [] rfl (by kernel_rfl) (by kernel_rfl) (by kernel_rfl) rfl rfl (wants_none rfl) rfl (ex_load_bx_agg 1 ti_26 rfl rfl rfl rfl) ?_
  refine JP_take (i := 1) [0, 1, 2, 3, 4] [] rfl (by kernel_rfl) (by kernel_rfl) (by kernel_rfl) rfl rfl (wants_none rfl) rfl (ex_fieldAddr fi_29_0 rfl rfl) ?_
  refine JP_take (i := 2) [0, 1, 2, 3, 4] [] rfl (by kernel_rfl) (by kernel_rfl) (by kernel_rfl) rfl rfl (wants_none rfl) rfl (ex_load_bx 0 ti_2 rfl rfl rfl) ?_
  refine JP_take (i := 3) [0, 1, 2, 3, 4] [] rfl (by kernel_rfl) (by kernel_rfl) (by kernel_rfl) rfl rfl (wants_none rfl) rfl (ex_fieldAddr fi_29_1 rfl rfl) ?_
  refine JP_take (i := 4) [0, 1, 2, 3, 4] [] rfl (by kernel_rfl) (by kernel_rfl) (by kernel_rfl) rfl rfl (wants_none rfl) rfl (ex_load_bx 0 ti_27 rfl rfl rfl) ?_
  refine JP_take (i := 6) [0, 1, 2, 3, 4] [] rfl (by kernel_rfl) (by kernel_rfl) (by kernel_rfl) rfl rfl (wants_none rfl) rfl (ex_fieldAddr fi_29_2 rfl rfl) ?_
  refine JP_take (i := 7) [0, 1, 2, 3, 4] [] rfl (by kernel_rfl) (by kernel_rfl) (by kernel_rfl) rfl rfl (wants_none rfl) rfl (ex_load_bx 0 ti_27 rfl rfl rfl) ?_
  refine JP_go [0, 1, 2, 3, 4] [] rfl rfl rfl (fun w4 h1_5 hp3 => ?_)
  refine JD_bnd fun r6 hr7 => ?_
  refine JD_one (i := 5) (by kernel_rfl) ?_
  refine JO_call rfl (wants_none rfl) rfl Try.call43 rfl (Ca_self (fun _ => rfl) fun w hh => c_impl_reversed _ w (fun _ hk => hk.elim) _ _ (hh.rd0 3 rfl) _ hr7) (fun x8 => ?_)
  refine JD_bnd fun r9 hr10 => ?_
  refine JD_one (i := 8) (by kernel_rfl) ?_
  refine JO_call rfl (wants_none rfl) rfl Try.call43 rfl (Ca_self (fun _ => rfl) fun w hh => c_impl_reversed _ w (fun _ hk => hk.elim) _ _ (hh.rd0 3 rfl) _ hr10) (fun x11 => ?_)
  refine JD_one (i := 9) (by kernel_rfl) ?_
  refine JO_q rfl (wants_none rfl) rfl (ex_buildN [(0, .agg #[.int .i64 p0.Symbols, .int .i64 p0.States, v0_0], [.int .i64 p0.Symbols, .int .i64 p0.States, v0_0]), (1, .int .i64 p1.State, [.int .i64 p1.State]), (2, x8, [x8]), (3, x11, [x11])] si_78 rfl (.cons fi_78_0 rfl rfl rfl (.cons fi_78_1 rfl rfl rfl (.cons fi_78_2 rfl rfl rfl (.cons fi_78_3 rfl rfl rfl .nil)))) (fun w hh => ⟨(cv_aggs ⟨cv_int, cv_int, (hh.cv 6 rfl), trivial⟩), cv_int, (hh.cv_ow 1 rfl), (hh.cv_ow 0 rfl), trivial⟩)) ?_
  refine JD_one (i := 10) (by kernel_rfl) ?_
  refine JO_st rfl (wants_none rfl) rfl (st_box' rfl (fun w hh => (cv_aggs ⟨cv_int, cv_int, (hh.cv 6 rfl), cv_int, (hh.cv_ow 1 rfl), (hh.cv_ow 0 rfl), trivial⟩))) (fun _ hk => nomatch hk) (fun b12 => ?_)
  refine JD_take (i := 11) hp3 rfl (by kernel_rfl) (by kernel_rfl) (by kernel_rfl) (wants_none rfl) rfl (ex_assign rfl) ?_
  refine JD_done (by kernel_rfl) ?_
  refine N_then ?_
  refine J_ret ?_
  exact N_ret1 rfl (rv_tmp rfl) (fun w hh => ⟨(v0_0, x8, x11, b12), rfl, hh.sel [7, 2, 1, 0] rfl⟩)

set_option maxHeartbeats 40000000 in
theorem c_impl_nearest (A : Nat → Prop) (w : World) (hA : ∀ k, A k → k < w.heap.size) (v0_ : Value) (p0 : (List Int)) (hp0 : Rd A w v0_ p0) (r : Int) (hr : F_impl_nearest p0 = some r) :
    Con Try.prog 63 [v0_] A w (fun x_ : Unit => .int .i64 r) (fun x_ => []) := by
  refine Con_of (v := fun (r : Int) (x_ : Unit) => .int .i64 r) (fs := fun r x_ => []) Try.func63 rfl Try.ntmps63 rfl ((SH.start hA).start_rd rfl hp0) rfl ?_ hr
  unfold F_impl_nearest
  refine J_seq ?_
  refine J_region ?_
  refine JL_q (wants_none rfl) rfl (ex_assign rfl) ?_
  refine JL_nil ?_
  refine N_then ?_
  refine J_seq ?_
  refine J_seq ?_
  refine J_region ?_
  refine JL_q (wants_none rfl) rfl (ex_move rfl) ?_
  refine JL_q (wants_none rfl) rfl (ex_len_rd 0 Try.underlying27 rfl rfl) ?_
  refine JL_q (wants_none rfl) rfl (ex_eql rfl rfl) ?_
  refine JL_nil ?_
  refine N_then ?_
  refine J_if rfl (fun h1 => ?_) (fun h1 => ?_)
  · refine J_seq ?_
    refine J_region ?_
    refine JL_q (wants_none rfl) rfl (ex_assign rfl) ?_
    refine JL_nil ?_
    refine N_then ?_
    refine J_ret ?_
    refine N_then_ret ?_
    exact N_ret1 rfl (rv_tmp rfl) (fun w hh => ⟨(), rfl, hh.sel [] rfl⟩)
  · refine J_skip ?_
    refine N_then ?_
    refine J_seq ?_
    refine J_region ?_
    refine JL_q (wants_none rfl) rfl (ex_move rfl) ?_
    refine JL_q (wants_none rfl) rfl (ex_move rfl) ?_
    refine JL_q (wants_none rfl) rfl (ex_len_rd 0 Try.underlying27 rfl rfl) ?_
    refine JL_q (wants_none rfl) rfl (ex_sub rfl rfl) ?_
    refine JL_bnd fun y2 hy3 => ?_
    refine JL_st (wants_none rfl) rfl (st_index 0 Try.underlying27 ti_2 rfl rfl rfl hy3) (fun q4 => ?_)
    refine JL_st (wants_none rfl) rfl (st_load_pt_o 0 (opens_int _) ti_2 rfl rfl) (fun _ => ?_)
    refine JL_q (wants_none rfl) rfl (ex_assign rfl) ?_
    refine JL_nil ?_
    refine N_then ?_
    refine J_ret ?_
    exact N_ret1 rfl (rv_tmp rfl) (fun w hh => ⟨(), rfl, hh.sel [] rfl⟩)

set_option maxHeartbeats 40000000 in
theorem c_impl_runner_symbol (A : Nat → Prop) (w : World) (hA : ∀ k, A k → k < w.heap.size) (v0_ : Value) (p0 : Grunner) (hp0 : RdA A w.heap.size w v0_ p0) (r : Int) (hr : F_impl_runner_symbol p0 = some r) :
    Con Try.prog 69 [v0_] A w (fun x_ : Unit => .int .i64 r) (fun x_ => []) := by
  refine Con_of (v := fun (r : Int) (x_ : Unit) => .int .i64 r) (fs := fun r x_ => []) Try.func69 rfl Try.ntmps69 rfl ((SH.start hA).start_pa' rfl hp0) rfl ?_ hr
  unfold F_impl_runner_symbol
  refine J_seq ?_
  refine J_region ?_
  refine JL_q (wants_none rfl) rfl (ex_assign rfl) ?_
  refine JL_nil ?_
  refine N_then ?_
  refine J_seq ?_
  refine J_region ?_
  refine JL_q (wants_none rfl) rfl (ex_move rfl) ?_
  refine JL_q (wants_none rfl) rfl (ex_nilCheck_pa 0 rfl rfl) ?_
  refine JL_st (wants_none rfl) rfl (st_field_pa 0 (Grunner.at_right _) fi_78_3 rfl rfl rfl) (fun q1 => ?_)
  refine JL_st (wants_none rfl) rfl (st_load_pa_o 0 (opens_sl _) ti_27 rfl rfl) (fun v2 => ?_)
  refine JL_bnd fun r3 hr4 => ?_
  refine JL_call (wants_none rfl) rfl Try.call63 rfl (Ca_of0 fun w hh => c_impl_nearest _ w (fun _ hk => hk.elim) _ _ (hh.rd0 0 rfl) _ hr4) (fun _ => ?_)
  refine JL_q (wants_none rfl) rfl (ex_assign rfl) ?_
  refine JL_nil ?_
  refine N_then ?_
  refine J_ret ?_
  exact N_ret1 rfl (rv_tmp rfl) (fun w hh => ⟨(), rfl, hh.sel [] rfl⟩)

set_option maxHeartbeats 40000000 in
theorem c_impl_runner_at (A : Nat → Prop) (w : World) (hA : ∀ k, A k → k < w.heap.size) (v0_ : Value) (p0 : Grunner) (hp0 : RdA A w.heap.size w v0_ p0) (r : Int) (hr : F_impl_runner_at p0 = some r) :
    Con Try.prog 64 [v0_] A w (fun x_ : Unit => .int .i64 r) (fun x_ => []) := by
  refine Con_of (v := fun (r : Int) (x_ : Unit) => .int .i64 r) (fs := fun r x_ => []) Try.func64 rfl Try.ntmps64 rfl ((SH.start hA).start_pa' rfl hp0) rfl ?_ hr
  unfold F_impl_runner_at
  refine J_seq ?_
  refine J_region ?_
  refine JL_q (wants_none rfl) rfl (ex_assign rfl) ?_
  refine JL_nil ?_
  refine N_then ?_
  refine J_seq ?_
  refine J_draw [] (by kernel_rfl) ?_
  refine JP_take (i := 0) [0] [] rfl (by kernel_rfl) (by kernel_rfl) (by kernel_rfl) rfl rfl (wants_none rfl) rfl (ex_move rfl) ?_
  refine JP_take (i := 1) [0] [] rfl (by kernel_rfl) (by kernel_rfl) (by kernel_rfl) rfl rfl (wants_none rfl) rfl (ex_nilCheck_pa 0 rfl rfl) ?_
  refine JP_sq (i := 2) [] rfl (by kernel_rfl) (by kernel_rfl) (by kernel_rfl) rfl (wants_none rfl) rfl (sq_field_pa 0 (Grunner.at_state _) fi_78_1 rfl rfl rfl) (fun q1 => ?_)
  refine JP_sq (i := 3) [] rfl (by kernel_rfl) (by kernel_rfl) (by kernel_rfl) rfl (wants_none rfl) rfl (sq_load_pa_o 0 (opens_int _) ti_2 rfl rfl) (fun _ => ?_)
  refine JP_take (i := 4) [0, 1] [] rfl (by kernel_rfl) (by kernel_rfl) (by kernel_rfl) rfl rfl (wants_none rfl) rfl (ex_move rfl) ?_
  refine JP_take (i := 5) [0, 1] [] rfl (by kernel_rfl) (by kernel_rfl) (by kernel_rfl) rfl rfl (wants_none rfl) rfl (ex_nilCheck_pa 1 rfl rfl) ?_
  refine JP_sq (i := 6) [] rfl (by kernel_rfl) (by kernel_rfl) (by kernel_rfl) rfl (wants_none rfl) rfl (sq_field_pa 1 (Grunner.at_m _) fi_78_0 rfl rfl rfl) (fun q3 => ?_)
  refine JP_sq (i := 7) [] rfl (by kernel_rfl) (by kernel_rfl) (by kernel_rfl) rfl (wants_none rfl) rfl (sq_field_pa 0 (GMachine.at_Symbols _) fi_26_0 rfl rfl rfl) (fun q4 => ?_)
  refine JP_sq (i := 8) [] rfl (by kernel_rfl) (by kernel_rfl) (by kernel_rfl) rfl (wants_none rfl) rfl (sq_load_pa_o 0 (opens_int _) ti_2 rfl rfl) (fun _ => ?_)
  refine JP_take (i := 9) [0, 1, 2, 3] [] rfl (by kernel_rfl) (by kernel_rfl) (by kernel_rfl) rfl rfl (wants_none rfl) rfl (ex_mul rfl rfl) ?_
  refine JP_take (i := 10) [0, 1, 2, 3] [] rfl (by kernel_rfl) (by kernel_rfl) (by kernel_rfl) rfl rfl (wants_none rfl) rfl (ex_move rfl) ?_
  refine JP_go [0, 1, 2, 3] [] rfl rfl rfl (fun w7 h1_8 hp6 => ?_)
  refine JD_bnd fun r9 hr10 => ?_
  refine JD_one (i := 11) (by kernel_rfl) ?_
  refine JO_call rfl (wants_none rfl) rfl Try.call69 rfl (Ca_of0 fun w hh => c_impl_runner_symbol _ w (fun _ hk => hk.elim) _ _ (hh.pa0 3 rfl) _ hr10) (fun _ => ?_)
  refine JD_take (i := 12) hp6 rfl (by kernel_rfl) (by kernel_rfl) (by kernel_rfl) (wants_none rfl) rfl (ex_add rfl rfl) ?_
  refine JD_take (i := 13) hp6 rfl (by kernel_rfl) (by kernel_rfl) (by kernel_rfl) (wants_none rfl) rfl (ex_assign rfl) ?_
  refine JD_done (by kernel_rfl) ?_
  refine N_then ?_
  refine J_ret ?_
  exact N_ret1 rfl (rv_tmp rfl) (fun w hh => ⟨(), rfl, hh.sel [] rfl⟩)

set_option maxHeartbeats 40000000 in
theorem c_impl_runner_rule (A : Nat → Prop) (w : World) (hA : ∀ k, A k → k < w.heap.size) (v0_ : Value) (p0 : Grunner) (hp0 : RdA A w.heap.size w v0_ p0) (r : GRule) (hr : F_impl_runner_rule p0 = some r) :
    Con Try.prog 56 [v0_] A w (fun x_ : Unit => .agg #[.int .i64 r.Write, .int .i64 r.Move, .int .i64 r.Next]) (fun x_ => []) := by
  refine Con_of (v := fun (r : GRule) (x_ : Unit) => .agg #[.int .i64 r.Write, .int .i64 r.Move, .int .i64 r.Next]) (fs := fun r x_ => []) Try.func56 rfl Try.ntmps56 rfl ((SH.start hA).start_pa' rfl hp0) rfl ?_ hr
  unfold F_impl_runner_rule
  refine J_seq ?_
  refine J_region ?_
  refine JL_st (wants_none rfl) rfl (st_alloc zi_49 rfl) (fun b1 => ?_)
  refine JL_nil ?_
  refine N_then ?_
  refine J_seq ?_
  refine J_draw [0] (by kernel_rfl) ?_
  refine JP_take (i := 0) [1] [0] rfl (by kernel_rfl) (by kernel_rfl) (by kernel_rfl) rfl rfl (wants_none rfl) rfl (ex_move rfl) ?_
  refine JP_take (i := 1) [1] [0] rfl (by kernel_rfl) (by kernel_rfl) (by kernel_rfl) rfl rfl (wants_none rfl) rfl (ex_nilCheck_pa 0 rfl rfl) ?_
  refine JP_sq (i := 2) [0] rfl (by kernel_rfl) (by kernel_rfl) (by kernel_rfl) rfl (wants_none rfl) rfl (sq_field_pa 1 (Grunner.at_m _) fi_78_0 rfl rfl rfl) (fun q2 => ?_)
  refine JP_sq (i := 3) [1] rfl (by kernel_rfl) (by kernel_rfl) (by kernel_rfl) rfl (wants_none rfl) rfl (sq_field_pa 0 (GMachine.at_Rules _) fi_26_2 rfl rfl rfl) (fun q3 => ?_)
  refine JP_sq (i := 4) [2] rfl (by kernel_rfl) (by kernel_rfl) (by kernel_rfl) rfl (wants_none rfl) rfl (sq_load_pa_o 0 (opens_sl _) ti_24 rfl rfl) (fun v4 => ?_)
  refine JP_take (i := 5) [0, 1, 2, 4] [3] rfl (by kernel_rfl) (by kernel_rfl) (by kernel_rfl) rfl rfl (wants_none rfl) rfl (ex_move rfl) ?_
  refine JP_go [0, 1, 2, 4] [3] rfl rfl rfl (fun w6 h1_7 hp5 => ?_)
  refine JD_bnd fun r8 hr9 => ?_
  refine JD_one (i := 6) (by kernel_rfl) ?_
  refine JO_call rfl (wants_none rfl) rfl Try.call64 rfl (Ca_of0 fun w hh => c_impl_runner_at _ w (fun _ hk => hk.elim) _ _ (hh.pa0 4 rfl) _ hr9) (fun _ => ?_)
  refine JD_bnd fun y10 hy11 => ?_
  refine JD_sq (i := 7) (fs := fun q12 => [.pt q12 y10]) [3] h1_7 rfl rfl (by kernel_rfl) (by kernel_rfl) (by kernel_rfl) (wants_none rfl) rfl (sq_index 0 Try.underlying24 ti_49 rfl rfl rfl hy11) (fun _ => rfl) (fun q12 h1_13 => ?_)
  refine JD_sq (i := 8) [4] h1_13 rfl rfl (by kernel_rfl) (by kernel_rfl) (by kernel_rfl) (wants_none rfl) rfl (sq_load_pt_o 0 (GRule.opens _) ti_49 rfl rfl) (fun _ => rfl) (fun _ h1_15 => ?_)
  refine JD_one (i := 9) (by kernel_rfl) ?_
  refine JO_sk rfl (wants_none rfl) (sk_store_bx' 4 ti_49 rfl rfl (fun w hh => (cv_aggs ⟨cv_int, cv_int, cv_int, trivial⟩)) rfl rfl rfl rfl) (sub_bx 0 rfl) ?_
  refine JD_done (by kernel_rfl) ?_
  refine N_then ?_
  refine J_ret ?_
  exact N_ret1 rfl (rv_cell 4 rfl rfl ti_49 rfl) (fun w hh => ⟨(), rfl, hh.sel [] rfl⟩)

set_option maxHeartbeats 40000000 in
theorem c_impl_runner_halts (A : Nat → Prop) (w : World) (hA : ∀ k, A k → k < w.heap.size) (v0_ : Value) (p0 : Grunner) (hp0 : RdA A w.heap.size w v0_ p0) (r : Bool) (hr : F_impl_runner_halts p0 = some r) :
    Con Try.prog 45 [v0_] A w (fun x_ : Unit => .bool r) (fun x_ => []) := by
  refine Con_of (v := fun (r : Bool) (x_ : Unit) => .bool r) (fs := fun r x_ => []) Try.func45 rfl Try.ntmps45 rfl ((SH.start hA).start_pa' rfl hp0) rfl ?_ hr
  unfold F_impl_runner_halts
  refine J_seq ?_
  refine J_region ?_
  refine JL_q (wants_none rfl) rfl (ex_assign rfl) ?_
  refine JL_nil ?_
  refine N_then ?_
  refine J_seq ?_
  refine J_region ?_
  refine JL_q (wants_none rfl) rfl (ex_move rfl) ?_
  refine JL_bnd fun r1 hr2 => ?_
  refine JL_call (wants_none rfl) rfl Try.call56 rfl (Ca_of0 fun w hh => c_impl_runner_rule _ w (fun _ hk => hk.elim) _ _ (hh.pa0 0 rfl) _ hr2) (fun _ => ?_)
  refine JL_bnd fun r3 hr4 => ?_
  refine JL_call (wants_none rfl) rfl Try.call19 rfl (Ca_of0 fun w hh => c_impl_isRule _ w (fun _ hk => hk.elim) _ _ (GRule.rdmk (Rd.mk_int _ _ _) (Rd.mk_int _ _ _) (Rd.mk_int _ _ _)) _ hr4) (fun _ => ?_)
  refine JL_q (wants_none rfl) rfl (ex_not rfl) ?_
  refine JL_q (wants_none rfl) rfl (ex_assign rfl) ?_
  refine JL_nil ?_
  refine N_then ?_
  refine J_ret ?_
  exact N_ret1 rfl (rv_tmp rfl) (fun w hh => ⟨(), rfl, hh.sel [] rfl⟩)

set_option maxHeartbeats 40000000 in
theorem c_impl_pop (A : Nat → Prop) (w : World) (hA : ∀ k, A k → k < w.heap.size) (v0_ : Value) (p0 : (List Int)) (hp0 : Rd A w v0_ p0) (r : (List Int)) (hr : F_impl_pop p0 = some r) :
    Con Try.prog 61 [v0_] A w (fun x_ : Value => x_) (fun x_ => [.pr (Sub v0_ p0 x_ r)]) := by
  refine Con_of (v := fun (r : (List Int)) (x_ : Value) => x_) (fs := fun r x_ => [.pr (Sub v0_ p0 x_ r)]) Try.func61 rfl Try.ntmps61 rfl ((SH.start hA).start_rd rfl hp0) rfl ?_ hr
  unfold F_impl_pop
  refine J_seq ?_
  refine J_region ?_
  refine JL_q (wants_none rfl) rfl (ex_assign rfl) ?_
  refine JL_nil ?_
  refine N_then ?_
  refine J_seq ?_
  refine J_region ?_
  refine JL_q (wants_none rfl) rfl (ex_move rfl) ?_
  refine JL_q (wants_none rfl) rfl (ex_move rfl) ?_
  refine JL_q (wants_none rfl) rfl (ex_len_rd 0 Try.underlying27 rfl rfl) ?_
  refine JL_q (wants_none rfl) rfl (ex_sub rfl rfl) ?_
  refine JL_q (wants_none rfl) rfl (ex_max rfl rfl) ?_
  refine JL_bnd fun z1 hz2 => ?_
  refine JL_st (wants_none rfl) rfl (st_slice_sub 0 Try.underlying27 ti_2 rfl rfl rfl rfl hz2) (fun v3 => ?_)
  refine JL_q (wants_none rfl) rfl (ex_assign rfl) ?_
  refine JL_nil ?_
  refine N_then ?_
  refine J_ret ?_
  refine N_ctx (fun w hh => hh.cons_pr (p := Sub v0_ p0 v3 z1) (hh.pr 1 rfl)) ?_
  exact N_ret1 rfl (rv_tmp rfl) (fun w hh => ⟨v3, rfl, hh.sel [0] rfl⟩)

set_option maxHeartbeats 40000000 in
theorem c_impl_runner_step (w : World) (b0_ : Nat) (p0 : Grunner) (v0_2 : Value) (v0_4 : Value) (v0_5 : Value) (B_ : List Nat) (hB_ : Ctx.owns [.bx b0_ 78 [.int .i64 p0.m_Symbols, .int .i64 p0.m_States, v0_2, .int .i64 p0.state, v0_4, v0_5], .ow 2 v0_4 p0.left, .ow 2 v0_5 p0.right] = B_) (hn_ : PHanded w [.bx b0_ 78 [.int .i64 p0.m_Symbols, .int .i64 p0.m_States, v0_2, .int .i64 p0.state, v0_4, v0_5], .ow 2 v0_4 p0.left, .ow 2 v0_5 p0.right]) (hp0_2 : Rd (fun k => k ∈ B_) w v0_2 p0.m_Rules) (r : (Bool) × (Int × (List Int) × (List Int))) (hr : F_impl_runner_step p0 = some r) :
    PtrCon Try.prog 55 [.pointer (some ⟨b0_, 0, none⟩)] w B_ (fun x_ : Value × Value => .bool r.1) (fun x_ => [.bx b0_ 78 [.int .i64 p0.m_Symbols, .int .i64 p0.m_States, v0_2, .int .i64 r.2.1, x_.1, x_.2], .ow 2 x_.1 r.2.2.1, .ow 2 x_.2 r.2.2.2]) := by
  refine PtrCon_of (v := fun (r : (Bool) × (Int × (List Int) × (List Int))) (x_ : Value × Value) => .bool r.1) (fs := fun r x_ => [.bx b0_ 78 [.int .i64 p0.m_Symbols, .int .i64 p0.m_States, v0_2, .int .i64 r.2.1, x_.1, x_.2], .ow 2 x_.1 r.2.2.1, .ow 2 x_.2 r.2.2.2]) Try.func55 rfl Try.ntmps55 rfl (show SH nowhere (bare w) w [.rd v0_2 p0.m_Rules, .bx b0_ 78 [.int .i64 p0.m_Symbols, .int .i64 p0.m_States, v0_2, .int .i64 p0.state, v0_4, v0_5], .ow 2 v0_4 p0.left, .ow 2 v0_5 p0.right, .tkn (.int .i64 0) (0 : Int) (restL w B_), rest w B_] from ((SH.begin hB_ hn_).cons_apart hB_ hp0_2)) rfl ?_ hr
  unfold F_impl_runner_step
  refine J_seq ?_
  refine J_region ?_
  refine JL_q (wants_none rfl) rfl (ex_assign rfl) ?_
  refine JL_nil ?_
  refine N_then ?_
  refine J_seq ?_
  refine J_region ?_
  refine JL_q (wants_none rfl) rfl (ex_move rfl) ?_
  refine JL_bnd fun r1 hr2 => ?_
  refine JL_call (wants_none rfl) rfl Try.call56 rfl (Ca_of0 fun w hh => c_impl_runner_rule _ w (fun _ hk => hk.elim) _ _ (hh.bx_pa 1 rfl (Grunner.rdmk (Rd.mk_int _ _ _) (Rd.mk_int _ _ _) (hh.rd0 0 rfl) (Rd.mk_int _ _ _) (hh.ow0 2 rfl) (hh.ow0 3 rfl)) rfl) _ hr2) (fun _ => ?_)
  refine JL_st (wants_none rfl) rfl (st_alloc zi_49 rfl) (fun b3 => ?_)
  refine JL_sk (wants_none rfl) (sk_store_bx' 0 ti_49 rfl rfl (fun w hh => (cv_aggs ⟨cv_int, cv_int, cv_int, trivial⟩)) rfl rfl rfl rfl) ?_
  refine JL_nil ?_
  refine N_then ?_
  refine J_seq ?_
  refine J_region ?_
  refine JL_q (wants_none rfl) rfl (ex_move rfl) ?_
  refine JL_q (wants_none rfl) rfl (ex_move rfl) ?_
  refine JL_q (wants_none rfl) rfl (ex_nilCheck rfl) ?_
  refine JL_q (wants_none rfl) rfl (ex_fieldAddr fi_78_3 rfl rfl) ?_
  refine JL_q (wants_none rfl) rfl (ex_load_bx 2 ti_27 rfl rfl rfl) ?_
  refine JL_inline (wants_none rfl) rfl Try.call61 rfl Try.func61 rfl Try.ntmps61 rfl rfl (fun K_ hK4 => ?_)
  refine J_seq ?_
  refine J_region ?_
  refine JL_q (wants_none rfl) rfl (ex_assign rfl) ?_
  refine JL_nil ?_
  refine N_then ?_
  refine J_seq ?_
  refine J_region ?_
  refine JL_q (wants_none rfl) rfl (ex_move rfl) ?_
  refine JL_q (wants_none rfl) rfl (ex_move rfl) ?_
  refine JL_q (wants_none rfl) rfl (ex_len_ow 4 Try.underlying27 rfl rfl) ?_
  refine JL_q (wants_none rfl) rfl (ex_sub rfl rfl) ?_
  refine JL_q (wants_none rfl) rfl (ex_max rfl rfl) ?_
  refine JL_bnd fun z5 hz6 => ?_
  refine JL_st (wants_none rfl) rfl (st_slice_own 4 Try.underlying27 ti_2 rfl rfl rfl hz6) (fun v7 => ?_)
  refine JL_q (wants_none rfl) rfl (ex_assign rfl) ?_
  refine JL_nil ?_
  refine N_then ?_
  refine J_ret ?_
  refine N_inl1 hK4 rfl (rv_tmp rfl) ?_
  refine JL_q (wants_none rfl) rfl (ex_nilCheck rfl) ?_
  refine JL_q (wants_none rfl) rfl (ex_fieldAddr fi_78_3 rfl rfl) ?_
  refine JL_sk (wants_none rfl) (sk_store_bx' 2 ti_27 rfl rfl (fun w hh => (hh.cv_ow 4 rfl)) rfl rfl rfl rfl) ?_
  refine JL_nil ?_
  refine N_then ?_
  refine J_seq ?_
  refine J_cut' (S' := (List Int) × (List Int)) (G' := Value × Value) (fun s8 g9 => [(0, .pointer (some ⟨b0_, 0, none⟩)), (3, .pointer (some ⟨b3, 0, none⟩))]) (fun s8 g9 => [rest w B_, .rd v0_2 p0.m_Rules, .ow 2 g9.1 s8.1, .ow 2 g9.2 s8.2, .bx b0_ 78 [.int .i64 p0.m_Symbols, .int .i64 p0.m_States, v0_2, .int .i64 p0.state, g9.1, g9.2], .bx b3 49 [.int .i64 r1.Write, .int .i64 r1.Move, .int .i64 r1.Next], .tkn (.int .i64 0) (0 : Int) (restL w B_)]) ?_ (fun s8 g9 => ?_)
  · refine J_seq ?_
    refine J_region ?_
    refine JL_q (wants_none rfl) rfl (ex_fieldAddr fi_49_1 rfl rfl) ?_
    refine JL_q (wants_none rfl) rfl (ex_load_bx 0 ti_2 rfl rfl rfl) ?_
    refine JL_q (wants_none rfl) rfl (ex_gtr rfl rfl) ?_
    refine JL_nil ?_
    refine N_then ?_
    refine J_if rfl (fun h10 => ?_) (fun h10 => ?_)
    · refine J_draw [2, 3, 4] (by kernel_rfl) ?_
      refine JP_take (i := 0) [0, 1, 5, 6] [2, 3, 4] rfl (by kernel_rfl) (by kernel_rfl) (by kernel_rfl) rfl rfl (wants_none rfl) rfl (ex_move rfl) ?_
      refine JP_take (i := 1) [0, 1, 5, 6] [2, 3, 4] rfl (by kernel_rfl) (by kernel_rfl) (by kernel_rfl) rfl rfl (wants_none rfl) rfl (ex_move rfl) ?_
      refine JP_take (i := 2) [0, 1, 5, 6] [2, 3, 4] rfl (by kernel_rfl) (by kernel_rfl) (by kernel_rfl) rfl rfl (wants_none rfl) rfl (ex_nilCheck rfl) ?_
      refine JP_take (i := 3) [0, 1, 5, 6] [2, 3, 4] rfl (by kernel_rfl) (by kernel_rfl) (by kernel_rfl) rfl rfl (wants_none rfl) rfl (ex_fieldAddr fi_78_2 rfl rfl) ?_
      refine JP_take (i := 5) [0, 1, 5, 6] [2, 3, 4] rfl (by kernel_rfl) (by kernel_rfl) (by kernel_rfl) rfl rfl (wants_none rfl) rfl (ex_fieldAddr fi_49_0 rfl rfl) ?_
      refine JP_take (i := 6) [0, 1, 5, 6] [2, 3, 4] rfl (by kernel_rfl) (by kernel_rfl) (by kernel_rfl) rfl rfl (wants_none rfl) rfl (ex_load_bx 0 ti_2 rfl rfl rfl) ?_
      refine JP_go [0, 1, 5, 6] [2, 3, 4] rfl rfl rfl (fun w12 h1_13 hp11 => ?_)
      refine JD_one (i := 4) (by kernel_rfl) ?_
      refine JO_q rfl (wants_none rfl) rfl (ex_load_bx 2 ti_27 rfl rfl rfl) ?_
      refine JD_one (i := 7) (by kernel_rfl) ?_
      refine JO_inline h1_13 [2, 3, 4] [0] rfl rfl rfl rfl (wants_none rfl) rfl Try.call62 rfl Try.func62 rfl Try.ntmps62 rfl rfl (fun C15 K_ hK14 => ?_)
      refine J_seq ?_
      refine J_region ?_
      refine JL_q (wants_none rfl) rfl (ex_assign rfl) ?_
      refine JL_nil ?_
      refine N_then ?_
      refine J_seq ?_
      refine J_seq ?_
      refine J_region ?_
      refine JL_q (wants_none rfl) rfl (ex_move rfl) ?_
      refine JL_q (wants_none rfl) rfl (ex_eql rfl rfl) ?_
      refine JL_q (wants_none rfl) rfl (ex_move rfl) ?_
      refine JL_cond (fun h16 => ?_) (fun h16 => ?_)
      · refine JL_q (wants_some rfl rfl rfl h16) rfl (ex_move rfl) ?_
        refine JL_q (wants_some rfl rfl rfl h16) rfl (ex_len_ow 4 Try.underlying27 rfl rfl) ?_
        refine JL_q (wants_some rfl rfl rfl h16) rfl (ex_eql rfl rfl) ?_
        refine JL_q (wants_none rfl) rfl (ex_pick_true rfl h16 rfl) ?_
        refine JL_nil ?_
        refine N_then ?_
        refine J_if rfl (fun h17 => ?_) (fun h17 => ?_)
        · refine J_seq ?_
          refine J_region ?_
          refine JL_q (wants_none rfl) rfl (ex_move rfl) ?_
          refine JL_q (wants_none rfl) rfl (ex_assign rfl) ?_
          refine JL_nil ?_
          refine N_then ?_
          refine J_ret ?_
          refine N_then_ret ?_
          refine N_inlD1 hK14 rfl (rv_tmp rfl) 0 [1] rfl rfl ?_
          refine JD_take (i := 8) hp11 rfl (by kernel_rfl) (by kernel_rfl) (by kernel_rfl) (wants_none rfl) rfl (ex_nilCheck rfl) ?_
          refine JD_take (i := 9) hp11 rfl (by kernel_rfl) (by kernel_rfl) (by kernel_rfl) (wants_none rfl) rfl (ex_fieldAddr fi_78_2 rfl rfl) ?_
          refine JD_one (i := 10) (by kernel_rfl) ?_
          refine JO_sk rfl (wants_none rfl) (sk_store_bx' 3 ti_27 rfl rfl (fun w hh => (hh.cv_ow 4 rfl)) rfl rfl rfl rfl) (sub_bx 0 rfl) ?_
          refine JD_done (by kernel_rfl) ?_
          exact N_meet' (v0_4, v7) ⟨rfl, rfl, trivial⟩ [7, 2, 4, 5, 3, 1, 6] rfl rfl
        · refine J_skip ?_
          refine N_then ?_
          refine J_seq ?_
          refine J_region ?_
          refine JL_q (wants_none rfl) rfl (ex_move rfl) ?_
          refine JL_q (wants_none rfl) rfl (ex_move rfl) ?_
          refine JL_st (wants_none rfl) rfl (st_buildSlice (vs := [.int .i64 r1.Write]) ([r1.Write] : List Int) Try.underlying27 ti_2 zi_2 rfl rfl rfl (fun w hh => ⟨(Rd.mk_int _ _ _), trivial⟩)) (fun b18 => ?_)
          refine JL_bnd fun z19 hz20 => ?_
          refine JL_st (wants_none rfl) rfl (st_append 5 Try.underlying27 ti_2 zi_2 rfl bi_2 rfl rfl rfl rfl (fun w hh => hh.src_ow 0 rfl) hz20) (fun v21 => ?_)
          refine JL_q (wants_none rfl) rfl (ex_assign rfl) ?_
          refine JL_nil ?_
          refine N_then ?_
          refine J_ret ?_
          refine N_inlD1 hK14 rfl (rv_tmp rfl) 1 [2] rfl rfl ?_
          refine JD_take (i := 8) hp11 rfl (by kernel_rfl) (by kernel_rfl) (by kernel_rfl) (wants_none rfl) rfl (ex_nilCheck rfl) ?_
          refine JD_take (i := 9) hp11 rfl (by kernel_rfl) (by kernel_rfl) (by kernel_rfl) (wants_none rfl) rfl (ex_fieldAddr fi_78_2 rfl rfl) ?_
          refine JD_one (i := 10) (by kernel_rfl) ?_
          refine JO_sk rfl (wants_none rfl) (sk_store_bx' 4 ti_27 rfl rfl (fun w hh => (hh.cv_ow 5 rfl)) rfl rfl rfl rfl) (sub_bx 0 rfl) ?_
          refine JD_done (by kernel_rfl) ?_
          exact N_meet' (v21, v7) ⟨rfl, rfl, trivial⟩ [8, 3, 5, 6, 4, 2, 7] rfl rfl
      · refine JL_passed rfl rfl rfl h16 ?_
        refine JL_passed rfl rfl rfl h16 ?_
        refine JL_passed rfl rfl rfl h16 ?_
        refine JL_q (wants_none rfl) rfl (ex_pick_false rfl h16 rfl) ?_
        refine JL_nil ?_
        refine N_then ?_
        refine J_if_false rfl rfl ?_
        refine J_skip ?_
        refine N_then ?_
        refine J_seq ?_
        refine J_region ?_
        refine JL_q (wants_none rfl) rfl (ex_move rfl) ?_
        refine JL_q (wants_none rfl) rfl (ex_move rfl) ?_
        refine JL_st (wants_none rfl) rfl (st_buildSlice (vs := [.int .i64 r1.Write]) ([r1.Write] : List Int) Try.underlying27 ti_2 zi_2 rfl rfl rfl (fun w hh => ⟨(Rd.mk_int _ _ _), trivial⟩)) (fun b22 => ?_)
        refine JL_bnd fun z23 hz24 => ?_
        refine JL_st (wants_none rfl) rfl (st_append 5 Try.underlying27 ti_2 zi_2 rfl bi_2 rfl rfl rfl rfl (fun w hh => hh.src_ow 0 rfl) hz24) (fun v25 => ?_)
        refine JL_q (wants_none rfl) rfl (ex_assign rfl) ?_
        refine JL_nil ?_
        refine N_then ?_
        refine J_ret ?_
        refine N_inlD1 hK14 rfl (rv_tmp rfl) 1 [2] rfl rfl ?_
        refine JD_take (i := 8) hp11 rfl (by kernel_rfl) (by kernel_rfl) (by kernel_rfl) (wants_none rfl) rfl (ex_nilCheck rfl) ?_
        refine JD_take (i := 9) hp11 rfl (by kernel_rfl) (by kernel_rfl) (by kernel_rfl) (wants_none rfl) rfl (ex_fieldAddr fi_78_2 rfl rfl) ?_
        refine JD_one (i := 10) (by kernel_rfl) ?_
        refine JO_sk rfl (wants_none rfl) (sk_store_bx' 4 ti_27 rfl rfl (fun w hh => (hh.cv_ow 5 rfl)) rfl rfl rfl rfl) (sub_bx 0 rfl) ?_
        refine JD_done (by kernel_rfl) ?_
        exact N_meet' (v25, v7) ⟨rfl, rfl, trivial⟩ [8, 3, 5, 6, 4, 2, 7] rfl rfl
    · refine J_seq ?_
      refine J_cut' (S' := (List Int)) (G' := Value) (fun s26 g27 => [(0, .pointer (some ⟨b0_, 0, none⟩)), (3, .pointer (some ⟨b3, 0, none⟩))]) (fun s26 g27 => [rest w B_, .rd v0_2 p0.m_Rules, .ow 2 v0_4 p0.left, .ow 2 g27 s26, .bx b0_ 78 [.int .i64 p0.m_Symbols, .int .i64 p0.m_States, v0_2, .int .i64 p0.state, v0_4, g27], .bx b3 49 [.int .i64 r1.Write, .int .i64 r1.Move, .int .i64 r1.Next], .tkn (.int .i64 0) (0 : Int) (restL w B_)]) ?_ (fun s26 g27 => ?_)
      · refine J_draw [2, 3, 4] (by kernel_rfl) ?_
        refine JP_take (i := 0) [0, 1, 5, 6] [2, 3, 4] rfl (by kernel_rfl) (by kernel_rfl) (by kernel_rfl) rfl rfl (wants_none rfl) rfl (ex_move rfl) ?_
        refine JP_take (i := 1) [0, 1, 5, 6] [2, 3, 4] rfl (by kernel_rfl) (by kernel_rfl) (by kernel_rfl) rfl rfl (wants_none rfl) rfl (ex_move rfl) ?_
        refine JP_take (i := 2) [0, 1, 5, 6] [2, 3, 4] rfl (by kernel_rfl) (by kernel_rfl) (by kernel_rfl) rfl rfl (wants_none rfl) rfl (ex_nilCheck rfl) ?_
        refine JP_take (i := 3) [0, 1, 5, 6] [2, 3, 4] rfl (by kernel_rfl) (by kernel_rfl) (by kernel_rfl) rfl rfl (wants_none rfl) rfl (ex_fieldAddr fi_78_3 rfl rfl) ?_
        refine JP_take (i := 5) [0, 1, 5, 6] [2, 3, 4] rfl (by kernel_rfl) (by kernel_rfl) (by kernel_rfl) rfl rfl (wants_none rfl) rfl (ex_fieldAddr fi_49_0 rfl rfl) ?_
        refine JP_take (i := 6) [0, 1, 5, 6] [2, 3, 4] rfl (by kernel_rfl) (by kernel_rfl) (by kernel_rfl) rfl rfl (wants_none rfl) rfl (ex_load_bx 0 ti_2 rfl rfl rfl) ?_
        refine JP_take (i := 8) [0, 1, 5, 6] [2, 3, 4] rfl (by kernel_rfl) (by kernel_rfl) (by kernel_rfl) rfl rfl (wants_none rfl) rfl (ex_move rfl) ?_
        refine JP_take (i := 9) [0, 1, 5, 6] [2, 3, 4] rfl (by kernel_rfl) (by kernel_rfl) (by kernel_rfl) rfl rfl (wants_none rfl) rfl (ex_nilCheck rfl) ?_
        refine JP_take (i := 10) [0, 1, 5, 6] [2, 3, 4] rfl (by kernel_rfl) (by kernel_rfl) (by kernel_rfl) rfl rfl (wants_none rfl) rfl (ex_fieldAddr fi_78_2 rfl rfl) ?_
        refine JP_go [0, 1, 5, 6] [2, 3, 4] rfl rfl rfl (fun w29 h1_30 hp28 => ?_)
        refine JD_two (i := 4) (j := 11) (by kernel_rfl) ?_ ?_
        · refine JO_q rfl (wants_none rfl) rfl (ex_load_bx 2 ti_27 rfl rfl rfl) ?_
          refine JD_two (i := 7) (j := 11) (by kernel_rfl) ?_ ?_
          · refine JO_inline h1_30 [2, 3, 4] [0] rfl rfl rfl rfl (wants_none rfl) rfl Try.call62 rfl Try.func62 rfl Try.ntmps62 rfl rfl (fun C32 K_ hK31 => ?_)
            refine J_seq ?_
            refine J_region ?_
            refine JL_q (wants_none rfl) rfl (ex_assign rfl) ?_
            refine JL_nil ?_
            refine N_then ?_
            refine J_seq ?_
            refine J_seq ?_
            refine J_region ?_
            refine JL_q (wants_none rfl) rfl (ex_move rfl) ?_
            refine JL_q (wants_none rfl) rfl (ex_eql rfl rfl) ?_
            refine JL_q (wants_none rfl) rfl (ex_move rfl) ?_
            refine JL_cond (fun h33 => ?_) (fun h33 => ?_)
            · refine JL_q (wants_some rfl rfl rfl h33) rfl (ex_move rfl) ?_
              refine JL_q (wants_some rfl rfl rfl h33) rfl (ex_len_ow 5 Try.underlying27 rfl rfl) ?_
              refine JL_q (wants_some rfl rfl rfl h33) rfl (ex_eql rfl rfl) ?_
              refine JL_q (wants_none rfl) rfl (ex_pick_true rfl h33 rfl) ?_
              refine JL_nil ?_
              refine N_then ?_
              refine J_if rfl (fun h34 => ?_) (fun h34 => ?_)
              · refine J_seq ?_
                refine J_region ?_
                refine JL_q (wants_none rfl) rfl (ex_move rfl) ?_
                refine JL_q (wants_none rfl) rfl (ex_assign rfl) ?_
                refine JL_nil ?_
                refine N_then ?_
                refine J_ret ?_
                refine N_then_ret ?_
                refine N_inlD1 hK31 rfl (rv_tmp rfl) 0 [1] rfl rfl ?_
                refine JD_one (i := 11) (by kernel_rfl) ?_
                refine JO_q rfl (wants_none rfl) rfl (ex_load_bx 3 ti_27 rfl rfl rfl) ?_
                refine JD_bnd fun r35 hr36 => ?_
                refine JD_one (i := 12) (by kernel_rfl) ?_
                refine JO_call rfl (wants_none rfl) rfl Try.call63 rfl (Ca_of0 fun w hh => c_impl_nearest _ w (fun _ hk => hk.elim) _ _ (hh.ow0 4 rfl) _ hr36) (fun _ => ?_)
                refine JD_one (i := 13) (by kernel_rfl) ?_
                refine JO_inline h1_30 [2, 3, 4] [0] rfl rfl rfl rfl (wants_none rfl) rfl Try.call62 rfl Try.func62 rfl Try.ntmps62 rfl rfl (fun C38 K_ hK37 => ?_)
                refine J_seq ?_
                refine J_region ?_
                refine JL_q (wants_none rfl) rfl (ex_assign rfl) ?_
                refine JL_nil ?_
                refine N_then ?_
                refine J_seq ?_
                refine J_seq ?_
                refine J_region ?_
                refine JL_q (wants_none rfl) rfl (ex_move rfl) ?_
                refine JL_q (wants_none rfl) rfl (ex_eql rfl rfl) ?_
                refine JL_q (wants_none rfl) rfl (ex_move rfl) ?_
                refine JL_cond (fun h39 => ?_) (fun h39 => ?_)
                · refine JL_q (wants_some rfl rfl rfl h39) rfl (ex_move rfl) ?_
                  refine JL_q (wants_some rfl rfl rfl h39) rfl (ex_len_ow 6 Try.underlying27 rfl rfl) ?_
                  refine JL_q (wants_some rfl rfl rfl h39) rfl (ex_eql rfl rfl) ?_
                  refine JL_q (wants_none rfl) rfl (ex_pick_true rfl h39 rfl) ?_
                  refine JL_nil ?_
                  refine N_then ?_
                  refine J_if_true rfl h34 ?_
                  refine J_seq ?_
                  refine J_region ?_
                  refine JL_q (wants_none rfl) rfl (ex_move rfl) ?_
                  refine JL_q (wants_none rfl) rfl (ex_assign rfl) ?_
                  refine JL_nil ?_
                  refine N_then ?_
                  refine J_ret ?_
                  refine N_then_ret ?_
                  refine N_inlD1 hK37 rfl (rv_tmp rfl) 0 [2] rfl rfl ?_
                  refine JD_take (i := 14) hp28 rfl (by kernel_rfl) (by kernel_rfl) (by kernel_rfl) (wants_none rfl) rfl (ex_nilCheck rfl) ?_
                  refine JD_take (i := 15) hp28 rfl (by kernel_rfl) (by kernel_rfl) (by kernel_rfl) (wants_none rfl) rfl (ex_fieldAddr fi_78_3 rfl rfl) ?_
                  refine JD_one (i := 16) (by kernel_rfl) ?_
                  refine JO_sk rfl (wants_none rfl) (sk_store_bx' 4 ti_27 rfl rfl (fun w hh => (hh.cv_ow 6 rfl)) rfl rfl rfl rfl) (sub_bx 0 rfl) ?_
                  refine JD_done (by kernel_rfl) ?_
                  exact N_meet' v7 ⟨rfl, rfl, trivial⟩ [8, 3, 5, 6, 4, 2, 7] rfl rfl
                · refine JL_passed rfl rfl rfl h39 ?_
                  refine JL_passed rfl rfl rfl h39 ?_
                  refine JL_passed rfl rfl rfl h39 ?_
                  refine JL_q (wants_none rfl) rfl (ex_pick_false rfl h39 rfl) ?_
                  refine JL_nil ?_
                  refine N_then ?_
                  refine J_if_false rfl rfl ?_
                  refine J_skip ?_
                  refine N_then ?_
                  refine J_seq ?_
                  refine J_region ?_
                  refine JL_q (wants_none rfl) rfl (ex_move rfl) ?_
                  refine JL_q (wants_none rfl) rfl (ex_move rfl) ?_
                  refine JL_st (wants_none rfl) rfl (st_buildSlice (vs := [.int .i64 r35]) ([r35] : List Int) Try.underlying27 ti_2 zi_2 rfl rfl rfl (fun w hh => ⟨(Rd.mk_int _ _ _), trivial⟩)) (fun b40 => ?_)
                  refine JL_bnd fun z41 hz42 => ?_
                  refine JL_st (wants_none rfl) rfl (st_append 7 Try.underlying27 ti_2 zi_2 rfl bi_2 rfl rfl rfl rfl (fun w hh => hh.src_ow 0 rfl) hz42) (fun v43 => ?_)
                  refine JL_q (wants_none rfl) rfl (ex_assign rfl) ?_
                  refine JL_nil ?_
                  refine N_then ?_
                  refine J_ret ?_
                  refine N_inlD1 hK37 rfl (rv_tmp rfl) 1 [3] rfl rfl ?_
                  refine JD_take (i := 14) hp28 rfl (by kernel_rfl) (by kernel_rfl) (by kernel_rfl) (wants_none rfl) rfl (ex_nilCheck rfl) ?_
                  refine JD_take (i := 15) hp28 rfl (by kernel_rfl) (by kernel_rfl) (by kernel_rfl) (wants_none rfl) rfl (ex_fieldAddr fi_78_3 rfl rfl) ?_
                  refine JD_one (i := 16) (by kernel_rfl) ?_
                  refine JO_sk rfl (wants_none rfl) (sk_store_bx' 5 ti_27 rfl rfl (fun w hh => (hh.cv_ow 7 rfl)) rfl rfl rfl rfl) (sub_bx 0 rfl) ?_
                  refine JD_done (by kernel_rfl) ?_
                  exact N_meet' v43 ⟨rfl, rfl, trivial⟩ [9, 4, 6, 7, 5, 3, 8] rfl rfl
              · refine J_skip ?_
                refine N_then ?_
                refine J_seq ?_
                refine J_region ?_
                refine JL_q (wants_none rfl) rfl (ex_move rfl) ?_
                refine JL_q (wants_none rfl) rfl (ex_move rfl) ?_
                refine JL_st (wants_none rfl) rfl (st_buildSlice (vs := [.int .i64 r1.Write]) ([r1.Write] : List Int) Try.underlying27 ti_2 zi_2 rfl rfl rfl (fun w hh => ⟨(Rd.mk_int _ _ _), trivial⟩)) (fun b44 => ?_)
                refine JL_bnd fun z45 hz46 => ?_
                refine JL_st (wants_none rfl) rfl (st_append 6 Try.underlying27 ti_2 zi_2 rfl bi_2 rfl rfl rfl rfl (fun w hh => hh.src_ow 0 rfl) hz46) (fun v47 => ?_)
                refine JL_q (wants_none rfl) rfl (ex_assign rfl) ?_
                refine JL_nil ?_
                refine N_then ?_
                refine J_ret ?_
                refine N_inlD1 hK31 rfl (rv_tmp rfl) 1 [2] rfl rfl ?_
                refine JD_one (i := 11) (by kernel_rfl) ?_
                refine JO_q rfl (wants_none rfl) rfl (ex_load_bx 4 ti_27 rfl rfl rfl) ?_
                refine JD_bnd fun r48 hr49 => ?_
                refine JD_one (i := 12) (by kernel_rfl) ?_
                refine JO_call rfl (wants_none rfl) rfl Try.call63 rfl (Ca_of0 fun w hh => c_impl_nearest _ w (fun _ hk => hk.elim) _ _ (hh.ow0 5 rfl) _ hr49) (fun _ => ?_)
                refine JD_one (i := 13) (by kernel_rfl) ?_
                refine JO_inline h1_30 [2, 3, 4] [0] rfl rfl rfl rfl (wants_none rfl) rfl Try.call62 rfl Try.func62 rfl Try.ntmps62 rfl rfl (fun C51 K_ hK50 => ?_)
                refine J_seq ?_
                refine J_region ?_
                refine JL_q (wants_none rfl) rfl (ex_assign rfl) ?_
                refine JL_nil ?_
                refine N_then ?_
                refine J_seq ?_
                refine J_seq ?_
                refine J_region ?_
                refine JL_q (wants_none rfl) rfl (ex_move rfl) ?_
                refine JL_q (wants_none rfl) rfl (ex_eql rfl rfl) ?_
                refine JL_q (wants_none rfl) rfl (ex_move rfl) ?_
                refine JL_cond (fun h52 => ?_) (fun h52 => ?_)
                · refine JL_q (wants_some rfl rfl rfl h52) rfl (ex_move rfl) ?_
                  refine JL_q (wants_some rfl rfl rfl h52) rfl (ex_len_ow 7 Try.underlying27 rfl rfl) ?_
                  refine JL_q (wants_some rfl rfl rfl h52) rfl (ex_eql rfl rfl) ?_
                  refine JL_q (wants_none rfl) rfl (ex_pick_true rfl h52 rfl) ?_
                  refine JL_nil ?_
                  refine N_then ?_
                  refine J_if rfl (fun h53 => ?_) (fun h53 => ?_)
                  · refine J_seq ?_
                    refine J_region ?_
                    refine JL_q (wants_none rfl) rfl (ex_move rfl) ?_
                    refine JL_q (wants_none rfl) rfl (ex_assign rfl) ?_
                    refine JL_nil ?_
                    refine N_then ?_
                    refine J_ret ?_
                    refine N_then_ret ?_
                    refine N_inlD1 hK50 rfl (rv_tmp rfl) 0 [3] rfl rfl ?_
                    refine JD_take (i := 14) hp28 rfl (by kernel_rfl) (by kernel_rfl) (by kernel_rfl) (wants_none rfl) rfl (ex_nilCheck rfl) ?_
                    refine JD_take (i := 15) hp28 rfl (by kernel_rfl) (by kernel_rfl) (by kernel_rfl) (wants_none rfl) rfl (ex_fieldAddr fi_78_3 rfl rfl) ?_
                    refine JD_one (i := 16) (by kernel_rfl) ?_
                    refine JO_sk rfl (wants_none rfl) (sk_store_bx' 5 ti_27 rfl rfl (fun w hh => (hh.cv_ow 7 rfl)) rfl rfl rfl rfl) (sub_bx 0 rfl) ?_
                    refine JD_done (by kernel_rfl) ?_
                    exact N_meet' v47 ⟨rfl, rfl, trivial⟩ [9, 4, 6, 7, 5, 3, 8] rfl rfl
                  · refine J_skip ?_
                    refine N_then ?_
                    refine J_seq ?_
                    refine J_region ?_
                    refine JL_q (wants_none rfl) rfl (ex_move rfl) ?_
                    refine JL_q (wants_none rfl) rfl (ex_move rfl) ?_
                    refine JL_st (wants_none rfl) rfl (st_buildSlice (vs := [.int .i64 r48]) ([r48] : List Int) Try.underlying27 ti_2 zi_2 rfl rfl rfl (fun w hh => ⟨(Rd.mk_int _ _ _), trivial⟩)) (fun b54 => ?_)
                    refine JL_bnd fun z55 hz56 => ?_
                    refine JL_st (wants_none rfl) rfl (st_append 8 Try.underlying27 ti_2 zi_2 rfl bi_2 rfl rfl rfl rfl (fun w hh => hh.src_ow 0 rfl) hz56) (fun v57 => ?_)
                    refine JL_q (wants_none rfl) rfl (ex_assign rfl) ?_
                    refine JL_nil ?_
                    refine N_then ?_
                    refine J_ret ?_
                    refine N_inlD1 hK50 rfl (rv_tmp rfl) 1 [4] rfl rfl ?_
                    refine JD_take (i := 14) hp28 rfl (by kernel_rfl) (by kernel_rfl) (by kernel_rfl) (wants_none rfl) rfl (ex_nilCheck rfl) ?_
                    refine JD_take (i := 15) hp28 rfl (by kernel_rfl) (by kernel_rfl) (by kernel_rfl) (wants_none rfl) rfl (ex_fieldAddr fi_78_3 rfl rfl) ?_
                    refine JD_one (i := 16) (by kernel_rfl) ?_
                    refine JO_sk rfl (wants_none rfl) (sk_store_bx' 6 ti_27 rfl rfl (fun w hh => (hh.cv_ow 8 rfl)) rfl rfl rfl rfl) (sub_bx 0 rfl) ?_
                    refine JD_done (by kernel_rfl) ?_
                    exact N_meet' v57 ⟨rfl, rfl, trivial⟩ [10, 5, 7, 8, 6, 4, 9] rfl rfl
                · refine JL_passed rfl rfl rfl h52 ?_
                  refine JL_passed rfl rfl rfl h52 ?_
                  refine JL_passed rfl rfl rfl h52 ?_
                  refine JL_q (wants_none rfl) rfl (ex_pick_false rfl h52 rfl) ?_
                  refine JL_nil ?_
                  refine N_then ?_
                  refine J_if_false rfl rfl ?_
                  refine J_skip ?_
                  refine N_then ?_
                  refine J_seq ?_
                  refine J_region ?_
                  refine JL_q (wants_none rfl) rfl (ex_move rfl) ?_
                  refine JL_q (wants_none rfl) rfl (ex_move rfl) ?_
                  refine JL_st (wants_none rfl) rfl (st_buildSlice (vs := [.int .i64 r48]) ([r48] : List Int) Try.underlying27 ti_2 zi_2 rfl rfl rfl (fun w hh => ⟨(Rd.mk_int _ _ _), trivial⟩)) (fun b58 => ?_)
                  refine JL_bnd fun z59 hz60 => ?_
                  refine JL_st (wants_none rfl) rfl (st_append 8 Try.underlying27 ti_2 zi_2 rfl bi_2 rfl rfl rfl rfl (fun w hh => hh.src_ow 0 rfl) hz60) (fun v61 => ?_)
                  refine JL_q (wants_none rfl) rfl (ex_assign rfl) ?_
                  refine JL_nil ?_
                  refine N_then ?_
                  refine J_ret ?_
                  refine N_inlD1 hK50 rfl (rv_tmp rfl) 1 [4] rfl rfl ?_
                  refine JD_take (i := 14) hp28 rfl (by kernel_rfl) (by kernel_rfl) (by kernel_rfl) (wants_none rfl) rfl (ex_nilCheck rfl) ?_
                  refine JD_take (i := 15) hp28 rfl (by kernel_rfl) (by kernel_rfl) (by kernel_rfl) (wants_none rfl) rfl (ex_fieldAddr fi_78_3 rfl rfl) ?_
                  refine JD_one (i := 16) (by kernel_rfl) ?_
                  refine JO_sk rfl (wants_none rfl) (sk_store_bx' 6 ti_27 rfl rfl (fun w hh => (hh.cv_ow 8 rfl)) rfl rfl rfl rfl) (sub_bx 0 rfl) ?_
                  refine JD_done (by kernel_rfl) ?_
                  exact N_meet' v61 ⟨rfl, rfl, trivial⟩ [10, 5, 7, 8, 6, 4, 9] rfl rfl
            · refine JL_passed rfl rfl rfl h33 ?_
              refine JL_passed rfl rfl rfl h33 ?_
              refine JL_passed rfl rfl rfl h33 ?_
              refine JL_q (wants_none rfl) rfl (ex_pick_false rfl h33 rfl) ?_
              refine JL_nil ?_
              refine N_then ?_
              refine J_if_false rfl rfl ?_
              refine J_skip ?_
              refine N_then ?_
              refine J_seq ?_
              refine J_region ?_
              refine JL_q (wants_none rfl) rfl (ex_move rfl) ?_
              refine JL_q (wants_none rfl) rfl (ex_move rfl) ?_
              refine JL_st (wants_none rfl) rfl (st_buildSlice (vs := [.int .i64 r1.Write]) ([r1.Write] : List Int) Try.underlying27 ti_2 zi_2 rfl rfl rfl (fun w hh => ⟨(Rd.mk_int _ _ _), trivial⟩)) (fun b62 => ?_)
              refine JL_bnd fun z63 hz64 => ?_
              refine JL_st (wants_none rfl) rfl (st_append 6 Try.underlying27 ti_2 zi_2 rfl bi_2 rfl rfl rfl rfl (fun w hh => hh.src_ow 0 rfl) hz64) (fun v65 => ?_)
              refine JL_q (wants_none rfl) rfl (ex_assign rfl) ?_
              refine JL_nil ?_
              refine N_then ?_
              refine J_ret ?_
              refine N_inlD1 hK31 rfl (rv_tmp rfl) 1 [2] rfl rfl ?_
              refine JD_one (i := 11) (by kernel_rfl) ?_
              refine JO_q rfl (wants_none rfl) rfl (ex_load_bx 4 ti_27 rfl rfl rfl) ?_
              refine JD_bnd fun r66 hr67 => ?_
              refine JD_one (i := 12) (by kernel_rfl) ?_
              refine JO_call rfl (wants_none rfl) rfl Try.call63 rfl (Ca_of0 fun w hh => c_impl_nearest _ w (fun _ hk => hk.elim) _ _ (hh.ow0 5 rfl) _ hr67) (fun _ => ?_)
              refine JD_one (i := 13) (by kernel_rfl) ?_
              refine JO_inline h1_30 [2, 3, 4] [0] rfl rfl rfl rfl (wants_none rfl) rfl Try.call62 rfl Try.func62 rfl Try.ntmps62 rfl rfl (fun C69 K_ hK68 => ?_)
              refine J_seq ?_
              refine J_region ?_
              refine JL_q (wants_none rfl) rfl (ex_assign rfl) ?_
              refine JL_nil ?_
              refine N_then ?_
              refine J_seq ?_
              refine J_seq ?_
              refine J_region ?_
              refine JL_q (wants_none rfl) rfl (ex_move rfl) ?_
              refine JL_q (wants_none rfl) rfl (ex_eql rfl rfl) ?_
              refine JL_q (wants_none rfl) rfl (ex_move rfl) ?_
              refine JL_cond (fun h70 => ?_) (fun h70 => ?_)
              · refine JL_q (wants_some rfl rfl rfl h70) rfl (ex_move rfl) ?_
                refine JL_q (wants_some rfl rfl rfl h70) rfl (ex_len_ow 7 Try.underlying27 rfl rfl) ?_
                refine JL_q (wants_some rfl rfl rfl h70) rfl (ex_eql rfl rfl) ?_
                refine JL_q (wants_none rfl) rfl (ex_pick_true rfl h70 rfl) ?_
                refine JL_nil ?_
                refine N_then ?_
                refine J_if rfl (fun h71 => ?_) (fun h71 => ?_)
                · refine J_seq ?_
                  refine J_region ?_
                  refine JL_q (wants_none rfl) rfl (ex_move rfl) ?_
                  refine JL_q (wants_none rfl) rfl (ex_assign rfl) ?_
                  refine JL_nil ?_
                  refine N_then ?_
                  refine J_ret ?_
                  refine N_then_ret ?_
                  refine N_inlD1 hK68 rfl (rv_tmp rfl) 0 [3] rfl rfl ?_
                  refine JD_take (i := 14) hp28 rfl (by kernel_rfl) (by kernel_rfl) (by kernel_rfl) (wants_none rfl) rfl (ex_nilCheck rfl) ?_
                  refine JD_take (i := 15) hp28 rfl (by kernel_rfl) (by kernel_rfl) (by kernel_rfl) (wants_none rfl) rfl (ex_fieldAddr fi_78_3 rfl rfl) ?_
                  refine JD_one (i := 16) (by kernel_rfl) ?_
                  refine JO_sk rfl (wants_none rfl) (sk_store_bx' 5 ti_27 rfl rfl (fun w hh => (hh.cv_ow 7 rfl)) rfl rfl rfl rfl) (sub_bx 0 rfl) ?_
                  refine JD_done (by kernel_rfl) ?_
                  exact N_meet' v65 ⟨rfl, rfl, trivial⟩ [9, 4, 6, 7, 5, 3, 8] rfl rfl
                · refine J_skip ?_
                  refine N_then ?_
                  refine J_seq ?_
                  refine J_region ?_
                  refine JL_q (wants_none rfl) rfl (ex_move rfl) ?_
                  refine JL_q (wants_none rfl) rfl (ex_move rfl) ?_
                  refine JL_st (wants_none rfl) rfl (st_buildSlice (vs := [.int .i64 r66]) ([r66] : List Int) Try.underlying27 ti_2 zi_2 rfl rfl rfl (fun w hh => ⟨(Rd.mk_int _ _ _), trivial⟩)) (fun b72 => ?_)
                  refine JL_bnd fun z73 hz74 => ?_
                  refine JL_st (wants_none rfl) rfl (st_append 8 Try.underlying27 ti_2 zi_2 rfl bi_2 rfl rfl rfl rfl (fun w hh => hh.src_ow 0 rfl) hz74) (fun v75 => ?_)
                  refine JL_q (wants_none rfl) rfl (ex_assign rfl) ?_
                  refine JL_nil ?_
                  refine N_then ?_
                  refine J_ret ?_
                  refine N_inlD1 hK68 rfl (rv_tmp rfl) 1 [4] rfl rfl ?_
                  refine JD_take (i := 14) hp28 rfl (by kernel_rfl) (by kernel_rfl) (by kernel_rfl) (wants_none rfl) rfl (ex_nilCheck rfl) ?_
                  refine JD_take (i := 15) hp28 rfl (by kernel_rfl) (by kernel_rfl) (by kernel_rfl) (wants_none rfl) rfl (ex_fieldAddr fi_78_3 rfl rfl) ?_
                  refine JD_one (i := 16) (by kernel_rfl) ?_
                  refine JO_sk rfl (wants_none rfl) (sk_store_bx' 6 ti_27 rfl rfl (fun w hh => (hh.cv_ow 8 rfl)) rfl rfl rfl rfl) (sub_bx 0 rfl) ?_
                  refine JD_done (by kernel_rfl) ?_
                  exact N_meet' v75 ⟨rfl, rfl, trivial⟩ [10, 5, 7, 8, 6, 4, 9] rfl rfl
              · refine JL_passed rfl rfl rfl h70 ?_
                refine JL_passed rfl rfl rfl h70 ?_
                refine JL_passed rfl rfl rfl h70 ?_
                refine JL_q (wants_none rfl) rfl (ex_pick_false rfl h70 rfl) ?_
                refine JL_nil ?_
                refine N_then ?_
                refine J_if_false rfl rfl ?_
                refine J_skip ?_
                refine N_then ?_
                refine J_seq ?_
                refine J_region ?_
                refine JL_q (wants_none rfl) rfl (ex_move rfl) ?_
                refine JL_q (wants_none rfl) rfl (ex_move rfl) ?_
                refine JL_st (wants_none rfl) rfl (st_buildSlice (vs := [.int .i64 r66]) ([r66] : List Int) Try.underlying27 ti_2 zi_2 rfl rfl rfl (fun w hh => ⟨(Rd.mk_int _ _ _), trivial⟩)) (fun b76 => ?_)
                refine JL_bnd fun z77 hz78 => ?_
                refine JL_st (wants_none rfl) rfl (st_append 8 Try.underlying27 ti_2 zi_2 rfl bi_2 rfl rfl rfl rfl (fun w hh => hh.src_ow 0 rfl) hz78) (fun v79 => ?_)
                refine JL_q (wants_none rfl) rfl (ex_assign rfl) ?_
                refine JL_nil ?_
                refine N_then ?_
                refine J_ret ?_
                refine N_inlD1 hK68 rfl (rv_tmp rfl) 1 [4] rfl rfl ?_
                refine JD_take (i := 14) hp28 rfl (by kernel_rfl) (by kernel_rfl) (by kernel_rfl) (wants_none rfl) rfl (ex_nilCheck rfl) ?_
                refine JD_take (i := 15) hp28 rfl (by kernel_rfl) (by kernel_rfl) (by kernel_rfl) (wants_none rfl) rfl (ex_fieldAddr fi_78_3 rfl rfl) ?_
                refine JD_one (i := 16) (by kernel_rfl) ?_
                refine JO_sk rfl (wants_none rfl) (sk_store_bx' 6 ti_27 rfl rfl (fun w hh => (hh.cv_ow 8 rfl)) rfl rfl rfl rfl) (sub_bx 0 rfl) ?_
                refine JD_done (by kernel_rfl) ?_
                exact N_meet' v79 ⟨rfl, rfl, trivial⟩ [10, 5, 7, 8, 6, 4, 9] rfl rfl
          · refine JO_q rfl (wants_none rfl) rfl (ex_load_bx 2 ti_27 rfl rfl rfl) ?_
            refine JD_one (i := 7) (by kernel_rfl) ?_
            refine JO_inline h1_30 [2, 3, 4] [0] rfl rfl rfl rfl (wants_none rfl) rfl Try.call62 rfl Try.func62 rfl Try.ntmps62 rfl rfl (fun C81 K_ hK80 => ?_)
            refine J_seq ?_
            refine J_region ?_
            refine JL_q (wants_none rfl) rfl (ex_assign rfl) ?_
            refine JL_nil ?_
            refine N_then ?_
            refine J_seq ?_
            refine J_seq ?_
            refine J_region ?_
            refine JL_q (wants_none rfl) rfl (ex_move rfl) ?_
            refine JL_q (wants_none rfl) rfl (ex_eql rfl rfl) ?_
            refine JL_q (wants_none rfl) rfl (ex_move rfl) ?_
            refine JL_cond (fun h82 => ?_) (fun h82 => ?_)
            · refine JL_q (wants_some rfl rfl rfl h82) rfl (ex_move rfl) ?_
              refine JL_q (wants_some rfl rfl rfl h82) rfl (ex_len_ow 5 Try.underlying27 rfl rfl) ?_
              refine JL_q (wants_some rfl rfl rfl h82) rfl (ex_eql rfl rfl) ?_
              refine JL_q (wants_none rfl) rfl (ex_pick_true rfl h82 rfl) ?_
              refine JL_nil ?_
              refine N_then ?_
              refine J_if rfl (fun h83 => ?_) (fun h83 => ?_)
              · refine J_seq ?_
                refine J_region ?_
                refine JL_q (wants_none rfl) rfl (ex_move rfl) ?_
                refine JL_q (wants_none rfl) rfl (ex_assign rfl) ?_
                refine JL_nil ?_
                refine N_then ?_
                refine J_ret ?_
                refine N_then_ret ?_
                refine N_inlD1 hK80 rfl (rv_tmp rfl) 0 [1] rfl rfl ?_
                refine JD_bnd fun r84 hr85 => ?_
                refine JD_one (i := 12) (by kernel_rfl) ?_
                refine JO_call rfl (wants_none rfl) rfl Try.call63 rfl (Ca_of0 fun w hh => c_impl_nearest _ w (fun _ hk => hk.elim) _ _ (hh.ow0 4 rfl) _ hr85) (fun _ => ?_)
                refine JD_one (i := 13) (by kernel_rfl) ?_
                refine JO_inline h1_30 [2, 3, 4] [0] rfl rfl rfl rfl (wants_none rfl) rfl Try.call62 rfl Try.func62 rfl Try.ntmps62 rfl rfl (fun C87 K_ hK86 => ?_)
                refine J_seq ?_
                refine J_region ?_
                refine JL_q (wants_none rfl) rfl (ex_assign rfl) ?_
                refine JL_nil ?_
                refine N_then ?_
                refine J_seq ?_
                refine J_seq ?_
                refine J_region ?_
                refine JL_q (wants_none rfl) rfl (ex_move rfl) ?_
                refine JL_q (wants_none rfl) rfl (ex_eql rfl rfl) ?_
                refine JL_q (wants_none rfl) rfl (ex_move rfl) ?_
                refine JL_cond (fun h88 => ?_) (fun h88 => ?_)
                · refine JL_q (wants_some rfl rfl rfl h88) rfl (ex_move rfl) ?_
                  refine JL_q (wants_some rfl rfl rfl h88) rfl (ex_len_ow 6 Try.underlying27 rfl rfl) ?_
                  refine JL_q (wants_some rfl rfl rfl h88) rfl (ex_eql rfl rfl) ?_
                  refine JL_q (wants_none rfl) rfl (ex_pick_true rfl h88 rfl) ?_
                  refine JL_nil ?_
                  refine N_then ?_
                  refine J_if_true rfl h83 ?_
                  refine J_seq ?_
                  refine J_region ?_
                  refine JL_q (wants_none rfl) rfl (ex_move rfl) ?_
                  refine JL_q (wants_none rfl) rfl (ex_assign rfl) ?_
                  refine JL_nil ?_
                  refine N_then ?_
                  refine J_ret ?_
                  refine N_then_ret ?_
                  refine N_inlD1 hK86 rfl (rv_tmp rfl) 0 [2] rfl rfl ?_
                  refine JD_take (i := 14) hp28 rfl (by kernel_rfl) (by kernel_rfl) (by kernel_rfl) (wants_none rfl) rfl (ex_nilCheck rfl) ?_
                  refine JD_take (i := 15) hp28 rfl (by kernel_rfl) (by kernel_rfl) (by kernel_rfl) (wants_none rfl) rfl (ex_fieldAddr fi_78_3 rfl rfl) ?_
                  refine JD_one (i := 16) (by kernel_rfl) ?_
                  refine JO_sk rfl (wants_none rfl) (sk_store_bx' 4 ti_27 rfl rfl (fun w hh => (hh.cv_ow 6 rfl)) rfl rfl rfl rfl) (sub_bx 0 rfl) ?_
                  refine JD_done (by kernel_rfl) ?_
                  exact N_meet' v7 ⟨rfl, rfl, trivial⟩ [8, 3, 5, 6, 4, 2, 7] rfl rfl
                · refine JL_passed rfl rfl rfl h88 ?_
                  refine JL_passed rfl rfl rfl h88 ?_
                  refine JL_passed rfl rfl rfl h88 ?_
                  refine JL_q (wants_none rfl) rfl (ex_pick_false rfl h88 rfl) ?_
                  refine JL_nil ?_
                  refine N_then ?_
                  refine J_if_false rfl rfl ?_
                  refine J_skip ?_
                  refine N_then ?_
                  refine J_seq ?_
                  refine J_region ?_
                  refine JL_q (wants_none rfl) rfl (ex_move rfl) ?_
                  refine JL_q (wants_none rfl) rfl (ex_move rfl) ?_
                  refine JL_st (wants_none rfl) rfl (st_buildSlice (vs := [.int .i64 r84]) ([r84] : List Int) Try.underlying27 ti_2 zi_2 rfl rfl rfl (fun w hh => ⟨(Rd.mk_int _ _ _), trivial⟩)) (fun b89 => ?_)
                  refine JL_bnd fun z90 hz91 => ?_
                  refine JL_st (wants_none rfl) rfl (st_append 7 Try.underlying27 ti_2 zi_2 rfl bi_2 rfl rfl rfl rfl (fun w hh => hh.src_ow 0 rfl) hz91) (fun v92 => ?_)
                  refine JL_q (wants_none rfl) rfl (ex_assign rfl) ?_
                  refine JL_nil ?_
                  refine N_then ?_
                  refine J_ret ?_
                  refine N_inlD1 hK86 rfl (rv_tmp rfl) 1 [3] rfl rfl ?_
                  refine JD_take (i := 14) hp28 rfl (by kernel_rfl) (by kernel_rfl) (by kernel_rfl) (wants_none rfl) rfl (ex_nilCheck rfl) ?_
                  refine JD_take (i := 15) hp28 rfl (by kernel_rfl) (by kernel_rfl) (by kernel_rfl) (wants_none rfl) rfl (ex_fieldAddr fi_78_3 rfl rfl) ?_
                  refine JD_one (i := 16) (by kernel_rfl) ?_
                  refine JO_sk rfl (wants_none rfl) (sk_store_bx' 5 ti_27 rfl rfl (fun w hh => (hh.cv_ow 7 rfl)) rfl rfl rfl rfl) (sub_bx 0 rfl) ?_
                  refine JD_done (by kernel_rfl) ?_
                  exact N_meet' v92 ⟨rfl, rfl, trivial⟩ [9, 4, 6, 7, 5, 3, 8] rfl rfl
              · refine J_skip ?_
                refine N_then ?_
                refine J_seq ?_
                refine J_region ?_
                refine JL_q (wants_none rfl) rfl (ex_move rfl) ?_
                refine JL_q (wants_none rfl) rfl (ex_move rfl) ?_
                refine JL_st (wants_none rfl) rfl (st_buildSlice (vs := [.int .i64 r1.Write]) ([r1.Write] : List Int) Try.underlying27 ti_2 zi_2 rfl rfl rfl (fun w hh => ⟨(Rd.mk_int _ _ _), trivial⟩)) (fun b93 => ?_)
                refine JL_bnd fun z94 hz95 => ?_
                refine JL_st (wants_none rfl) rfl (st_append 6 Try.underlying27 ti_2 zi_2 rfl bi_2 rfl rfl rfl rfl (fun w hh => hh.src_ow 0 rfl) hz95) (fun v96 => ?_)
                refine JL_q (wants_none rfl) rfl (ex_assign rfl) ?_
                refine JL_nil ?_
                refine N_then ?_
                refine J_ret ?_
                refine N_inlD1 hK80 rfl (rv_tmp rfl) 1 [2] rfl rfl ?_
                refine JD_bnd fun r97 hr98 => ?_
                refine JD_one (i := 12) (by kernel_rfl) ?_
                refine JO_call rfl (wants_none rfl) rfl Try.call63 rfl (Ca_of0 fun w hh => c_impl_nearest _ w (fun _ hk => hk.elim) _ _ (hh.ow0 5 rfl) _ hr98) (fun _ => ?_)
                refine JD_one (i := 13) (by kernel_rfl) ?_
                refine JO_inline h1_30 [2, 3, 4] [0] rfl rfl rfl rfl (wants_none rfl) rfl Try.call62 rfl Try.func62 rfl Try.ntmps62 rfl rfl (fun C100 K_ hK99 => ?_)
                refine J_seq ?_
                refine J_region ?_
                refine JL_q (wants_none rfl) rfl (ex_assign rfl) ?_
                refine JL_nil ?_
                refine N_then ?_
                refine J_seq ?_
                refine J_seq ?_
                refine J_region ?_
                refine JL_q (wants_none rfl) rfl (ex_move rfl) ?_
                refine JL_q (wants_none rfl) rfl (ex_eql rfl rfl) ?_
                refine JL_q (wants_none rfl) rfl (ex_move rfl) ?_
                refine JL_cond (fun h101 => ?_) (fun h101 => ?_)
                · refine JL_q (wants_some rfl rfl rfl h101) rfl (ex_move rfl) ?_
                  refine JL_q (wants_some rfl rfl rfl h101) rfl (ex_len_ow 7 Try.underlying27 rfl rfl) ?_
                  refine JL_q (wants_some rfl rfl rfl h101) rfl (ex_eql rfl rfl) ?_
                  refine JL_q (wants_none rfl) rfl (ex_pick_true rfl h101 rfl) ?_
                  refine JL_nil ?_
                  refine N_then ?_
                  refine J_if rfl (fun h102 => ?_) (fun h102 => ?_)
                  · refine J_seq ?_
                    refine J_region ?_
                    refine JL_q (wants_none rfl) rfl (ex_move rfl) ?_
                    refine JL_q (wants_none rfl) rfl (ex_assign rfl) ?_
                    refine JL_nil ?_
                    refine N_then ?_
                    refine J_ret ?_
                    refine N_then_ret ?_
                    refine N_inlD1 hK99 rfl (rv_tmp rfl) 0 [3] rfl rfl ?_
                    refine JD_take (i := 14) hp28 rfl (by kernel_rfl) (by kernel_rfl) (by kernel_rfl) (wants_none rfl) rfl (ex_nilCheck rfl) ?_
                    refine JD_take (i := 15) hp28 rfl (by kernel_rfl) (by kernel_rfl) (by kernel_rfl) (wants_none rfl) rfl (ex_fieldAddr fi_78_3 rfl rfl) ?_
                    refine JD_one (i := 16) (by kernel_rfl) ?_
                    refine JO_sk rfl (wants_none rfl) (sk_store_bx' 5 ti_27 rfl rfl (fun w hh => (hh.cv_ow 7 rfl)) rfl rfl rfl rfl) (sub_bx 0 rfl) ?_
                    refine JD_done (by kernel_rfl) ?_
                    exact N_meet' v96 ⟨rfl, rfl, trivial⟩ [9, 4, 6, 7, 5, 3, 8] rfl rfl
                  · refine J_skip ?_
                    refine N_then ?_
                    refine J_seq ?_
                    refine J_region ?_
                    refine JL_q (wants_none rfl) rfl (ex_move rfl) ?_
                    refine JL_q (wants_none rfl) rfl (ex_move rfl) ?_
                    refine JL_st (wants_none rfl) rfl (st_buildSlice (vs := [.int .i64 r97]) ([r97] : List Int) Try.underlying27 ti_2 zi_2 rfl rfl rfl (fun w hh => ⟨(Rd.mk_int _ _ _), trivial⟩)) (fun b103 => ?_)
                    refine JL_bnd fun z104 hz105 => ?_
                    refine JL_st (wants_none rfl) rfl (st_append 8 Try.underlying27 ti_2 zi_2 rfl bi_2 rfl rfl rfl rfl (fun w hh => hh.src_ow 0 rfl) hz105) (fun v106 => ?_)
                    refine JL_q (wants_none rfl) rfl (ex_assign rfl) ?_
                    refine JL_nil ?_
                    refine N_then ?_
                    refine J_ret ?_
                    refine N_inlD1 hK99 rfl (rv_tmp rfl) 1 [4] rfl rfl ?_
                    refine JD_take (i := 14) hp28 rfl (by kernel_rfl) (by kernel_rfl) (by kernel_rfl) (wants_none rfl) rfl (ex_nilCheck rfl) ?_
                    refine JD_take (i := 15) hp28 rfl (by kernel_rfl) (by kernel_rfl) (by kernel_rfl) (wants_none rfl) rfl (ex_fieldAddr fi_78_3 rfl rfl) ?_
                    refine JD_one (i := 16) (by kernel_rfl) ?_
                    refine JO_sk rfl (wants_none rfl) (sk_store_bx' 6 ti_27 rfl rfl (fun w hh => (hh.cv_ow 8 rfl)) rfl rfl rfl rfl) (sub_bx 0 rfl) ?_
                    refine JD_done (by kernel_rfl) ?_
                    exact N_meet' v106 ⟨rfl, rfl, trivial⟩ [10, 5, 7, 8, 6, 4, 9] rfl rfl
                · refine JL_passed rfl rfl rfl h101 ?_
                  refine JL_passed rfl rfl rfl h101 ?_
                  refine JL_passed rfl rfl rfl h101 ?_
                  refine JL_q (wants_none rfl) rfl (ex_pick_false rfl h101 rfl) ?_
                  refine JL_nil ?_
                  refine N_then ?_
                  refine J_if_false rfl rfl ?_
                  refine J_skip ?_
                  refine N_then ?_
                  refine J_seq ?_
                  refine J_region ?_
                  refine JL_q (wants_none rfl) rfl (ex_move rfl) ?_
                  refine JL_q (wants_none rfl) rfl (ex_move rfl) ?_
                  refine JL_st (wants_none rfl) rfl (st_buildSlice (vs := [.int .i64 r97]) ([r97] : List Int) Try.underlying27 ti_2 zi_2 rfl rfl rfl (fun w hh => ⟨(Rd.mk_int _ _ _), trivial⟩)) (fun b107 => ?_)
                  refine JL_bnd fun z108 hz109 => ?_
                  refine JL_st (wants_none rfl) rfl (st_append 8 Try.underlying27 ti_2 zi_2 rfl bi_2 rfl rfl rfl rfl (fun w hh => hh.src_ow 0 rfl) hz109) (fun v110 => ?_)
                  refine JL_q (wants_none rfl) rfl (ex_assign rfl) ?_
                  refine JL_nil ?_
                  refine N_then ?_
                  refine J_ret ?_
                  refine N_inlD1 hK99 rfl (rv_tmp rfl) 1 [4] rfl rfl ?_
                  refine JD_take (i := 14) hp28 rfl (by kernel_rfl) (by kernel_rfl) (by kernel_rfl) (wants_none rfl) rfl (ex_nilCheck rfl) ?_
                  refine JD_take (i := 15) hp28 rfl (by kernel_rfl) (by kernel_rfl) (by kernel_rfl) (wants_none rfl) rfl (ex_fieldAddr fi_78_3 rfl rfl) ?_
                  refine JD_one (i := 16) (by kernel_rfl) ?_
                  refine JO_sk rfl (wants_none rfl) (sk_store_bx' 6 ti_27 rfl rfl (fun w hh => (hh.cv_ow 8 rfl)) rfl rfl rfl rfl) (sub_bx 0 rfl) ?_
                  refine JD_done (by kernel_rfl) ?_
                  exact N_meet' v110 ⟨rfl, rfl, trivial⟩ [10, 5, 7, 8, 6, 4, 9] rfl rfl
            · refine JL_passed rfl rfl rfl h82 ?_
              refine JL_passed rfl rfl rfl h82 ?_
              refine JL_passed rfl rfl rfl h82 ?_
              refine JL_q (wants_none rfl) rfl (ex_pick_false rfl h82 rfl) ?_
              refine JL_nil ?_
              refine N_then ?_
              refine J_if_false rfl rfl ?_
              refine J_skip ?_
              refine N_then ?_
              refine J_seq ?_
              refine J_region ?_
              refine JL_q (wants_none rfl) rfl (ex_move rfl) ?_
              refine JL_q (wants_none rfl) rfl (ex_move rfl) ?_
              refine JL_st (wants_none rfl) rfl (st_buildSlice (vs := [.int .i64 r1.Write]) ([r1.Write] : List Int) Try.underlying27 ti_2 zi_2 rfl rfl rfl (fun w hh => ⟨(Rd.mk_int _ _ _), trivial⟩)) (fun b111 => ?_)
              refine JL_bnd fun z112 hz113 => ?_
              refine JL_st (wants_none rfl) rfl (st_append 6 Try.underlying27 ti_2 zi_2 rfl bi_2 rfl rfl rfl rfl (fun w hh => hh.src_ow 0 rfl) hz113) (fun v114 => ?_)
              refine JL_q (wants_none rfl) rfl (ex_assign rfl) ?_
              refine JL_nil ?_
              refine N_then ?_
              refine J_ret ?_
              refine N_inlD1 hK80 rfl (rv_tmp rfl) 1 [2] rfl rfl ?_
              refine JD_bnd fun r115 hr116 => ?_
              refine JD_one (i := 12) (by kernel_rfl) ?_
              refine JO_call rfl (wants_none rfl) rfl Try.call63 rfl (Ca_of0 fun w hh => c_impl_nearest _ w (fun _ hk => hk.elim) _ _ (hh.ow0 5 rfl) _ hr116) (fun _ => ?_)
              refine JD_one (i := 13) (by kernel_rfl) ?_
              refine JO_inline h1_30 [2, 3, 4] [0] rfl rfl rfl rfl (wants_none rfl) rfl Try.call62 rfl Try.func62 rfl Try.ntmps62 rfl rfl (fun C118 K_ hK117 => ?_)
              refine J_seq ?_
              refine J_region ?_
              refine JL_q (wants_none rfl) rfl (ex_assign rfl) ?_
              refine JL_nil ?_
              refine N_then ?_
              refine J_seq ?_
              refine J_seq ?_
              refine J_region ?_
              refine JL_q (wants_none rfl) rfl (ex_move rfl) ?_
              refine JL_q (wants_none rfl) rfl (ex_eql rfl rfl) ?_
              refine JL_q (wants_none rfl) rfl (ex_move rfl) ?_
              refine JL_cond (fun h119 => ?_) (fun h119 => ?_)
              · refine JL_q (wants_some rfl rfl rfl h119) rfl (ex_move rfl) ?_
                refine JL_q (wants_some rfl rfl rfl h119) rfl (ex_len_ow 7 Try.underlying27 rfl rfl) ?_
                refine JL_q (wants_some rfl rfl rfl h119) rfl (ex_eql rfl rfl) ?_
                refine JL_q (wants_none rfl) rfl (ex_pick_true rfl h119 rfl) ?_
                refine JL_nil ?_
                refine N_then ?_
                refine J_if rfl (fun h120 => ?_) (fun h120 => ?_)
                · refine J_seq ?_
                  refine J_region ?_
                  refine JL_q (wants_none rfl) rfl (ex_move rfl) ?_
                  refine JL_q (wants_none rfl) rfl (ex_assign rfl) ?_
                  refine JL_nil ?_
                  refine N_then ?_
                  refine J_ret ?_
                  refine N_then_ret ?_
                  refine N_inlD1 hK117 rfl (rv_tmp rfl) 0 [3] rfl rfl ?_
                  refine JD_take (i := 14) hp28 rfl (by kernel_rfl) (by kernel_rfl) (by kernel_rfl) (wants_none rfl) rfl (ex_nilCheck rfl) ?_
                  refine JD_take (i := 15) hp28 rfl (by kernel_rfl) (by kernel_rfl) (by kernel_rfl) (wants_none rfl) rfl (ex_fieldAddr fi_78_3 rfl rfl) ?_
                  refine JD_one (i := 16) (by kernel_rfl) ?_
                  refine JO_sk rfl (wants_none rfl) (sk_store_bx' 5 ti_27 rfl rfl (fun w hh => (hh.cv_ow 7 rfl)) rfl rfl rfl rfl) (sub_bx 0 rfl) ?_
                  refine JD_done (by kernel_rfl) ?_
                  exact N_meet' v114 ⟨rfl, rfl, trivial⟩ [9, 4, 6, 7, 5, 3, 8] rfl rfl
                · refine J_skip ?_
                  refine N_then ?_
                  refine J_seq ?_
                  refine J_region ?_
                  refine JL_q (wants_none rfl) rfl (ex_move rfl) ?_
                  refine JL_q (wants_none rfl) rfl (ex_move rfl) ?_
                  refine JL_st (wants_none rfl) rfl (st_buildSlice (vs := [.int .i64 r115]) ([r115] : List Int) Try.underlying27 ti_2 zi_2 rfl rfl rfl (fun w hh => ⟨(Rd.mk_int _ _ _), trivial⟩)) (fun b121 => ?_)
                  refine JL_bnd fun z122 hz123 => ?_
                  refine JL_st (wants_none rfl) rfl (st_append 8 Try.underlying27 ti_2 zi_2 rfl bi_2 rfl rfl rfl rfl (fun w hh => hh.src_ow 0 rfl) hz123) (fun v124 => ?_)
                  refine JL_q (wants_none rfl) rfl (ex_assign rfl) ?_
                  refine JL_nil ?_
                  refine N_then ?_
                  refine J_ret ?_
                  refine N_inlD1 hK117 rfl (rv_tmp rfl) 1 [4] rfl rfl ?_
                  refine JD_take (i := 14) hp28 rfl (by kernel_rfl) (by kernel_rfl) (by kernel_rfl) (wants_none rfl) rfl (ex_nilCheck rfl) ?_
                  refine JD_take (i := 15) hp28 rfl (by kernel_rfl) (by kernel_rfl) (by kernel_rfl) (wants_none rfl) rfl (ex_fieldAddr fi_78_3 rfl rfl) ?_
                  refine JD_one (i := 16) (by kernel_rfl) ?_
                  refine JO_sk rfl (wants_none rfl) (sk_store_bx' 6 ti_27 rfl rfl (fun w hh => (hh.cv_ow 8 rfl)) rfl rfl rfl rfl) (sub_bx 0 rfl) ?_
                  refine JD_done (by kernel_rfl) ?_
                  exact N_meet' v124 ⟨rfl, rfl, trivial⟩ [10, 5, 7, 8, 6, 4, 9] rfl rfl
              · refine JL_passed rfl rfl rfl h119 ?_
                refine JL_passed rfl rfl rfl h119 ?_
                refine JL_passed rfl rfl rfl h119 ?_
                refine JL_q (wants_none rfl) rfl (ex_pick_false rfl h119 rfl) ?_
                refine JL_nil ?_
                refine N_then ?_
                refine J_if_false rfl rfl ?_
                refine J_skip ?_
                refine N_then ?_
                refine J_seq ?_
                refine J_region ?_
                refine JL_q (wants_none rfl) rfl (ex_move rfl) ?_
                refine JL_q (wants_none rfl) rfl (ex_move rfl) ?_
                refine JL_st (wants_none rfl) rfl (st_buildSlice (vs := [.int .i64 r115]) ([r115] : List Int) Try.underlying27 ti_2 zi_2 rfl rfl rfl (fun w hh => ⟨(Rd.mk_int _ _ _), trivial⟩)) (fun b125 => ?_)
                refine JL_bnd fun z126 hz127 => ?_
                refine JL_st (wants_none rfl) rfl (st_append 8 Try.underlying27 ti_2 zi_2 rfl bi_2 rfl rfl rfl rfl (fun w hh => hh.src_ow 0 rfl) hz127) (fun v128 => ?_)
                refine JL_q (wants_none rfl) rfl (ex_assign rfl) ?_
                refine JL_nil ?_
                refine N_then ?_
                refine J_ret ?_
                refine N_inlD1 hK117 rfl (rv_tmp rfl) 1 [4] rfl rfl ?_
                refine JD_take (i := 14) hp28 rfl (by kernel_rfl) (by kernel_rfl) (by kernel_rfl) (wants_none rfl) rfl (ex_nilCheck rfl) ?_
                refine JD_take (i := 15) hp28 rfl (by kernel_rfl) (by kernel_rfl) (by kernel_rfl) (wants_none rfl) rfl (ex_fieldAddr fi_78_3 rfl rfl) ?_
                refine JD_one (i := 16) (by kernel_rfl) ?_
                refine JO_sk rfl (wants_none rfl) (sk_store_bx' 6 ti_27 rfl rfl (fun w hh => (hh.cv_ow 8 rfl)) rfl rfl rfl rfl) (sub_bx 0 rfl) ?_
                refine JD_done (by kernel_rfl) ?_
                exact N_meet' v128 ⟨rfl, rfl, trivial⟩ [10, 5, 7, 8, 6, 4, 9] rfl rfl
        · refine JO_q rfl (wants_none rfl) rfl (ex_load_bx 2 ti_27 rfl rfl rfl) ?_
          refine JD_one (i := 4) (by kernel_rfl) ?_
          refine JO_q rfl (wants_none rfl) rfl (ex_load_bx 2 ti_27 rfl rfl rfl) ?_
          refine JD_one (i := 7) (by kernel_rfl) ?_
          refine JO_inline h1_30 [2, 3, 4] [0] rfl rfl rfl rfl (wants_none rfl) rfl Try.call62 rfl Try.func62 rfl Try.ntmps62 rfl rfl (fun C130 K_ hK129 => ?_)
          refine J_seq ?_
          refine J_region ?_
          refine JL_q (wants_none rfl) rfl (ex_assign rfl) ?_
          refine JL_nil ?_
          refine N_then ?_
          refine J_seq ?_
          refine J_seq ?_
          refine J_region ?_
          refine JL_q (wants_none rfl) rfl (ex_move rfl) ?_
          refine JL_q (wants_none rfl) rfl (ex_eql rfl rfl) ?_
          refine JL_q (wants_none rfl) rfl (ex_move rfl) ?_
          refine JL_cond (fun h131 => ?_) (fun h131 => ?_)
          · refine JL_q (wants_some rfl rfl rfl h131) rfl (ex_move rfl) ?_
            refine JL_q (wants_some rfl rfl rfl h131) rfl (ex_len_ow 5 Try.underlying27 rfl rfl) ?_
            refine JL_q (wants_some rfl rfl rfl h131) rfl (ex_eql rfl rfl) ?_
            refine JL_q (wants_none rfl) rfl (ex_pick_true rfl h131 rfl) ?_
            refine JL_nil ?_
            refine N_then ?_
            refine J_if rfl (fun h132 => ?_) (fun h132 => ?_)
            · refine J_seq ?_
              refine J_region ?_
              refine JL_q (wants_none rfl) rfl (ex_move rfl) ?_
              refine JL_q (wants_none rfl) rfl (ex_assign rfl) ?_
              refine JL_nil ?_
              refine N_then ?_
              refine J_ret ?_
              refine N_then_ret ?_
              refine N_inlD1 hK129 rfl (rv_tmp rfl) 0 [1] rfl rfl ?_
              refine JD_bnd fun r133 hr134 => ?_
              refine JD_one (i := 12) (by kernel_rfl) ?_
              refine JO_call rfl (wants_none rfl) rfl Try.call63 rfl (Ca_of0 fun w hh => c_impl_nearest _ w (fun _ hk => hk.elim) _ _ (hh.ow0 4 rfl) _ hr134) (fun _ => ?_)
              refine JD_one (i := 13) (by kernel_rfl) ?_
              refine JO_inline h1_30 [2, 3, 4] [0] rfl rfl rfl rfl (wants_none rfl) rfl Try.call62 rfl Try.func62 rfl Try.ntmps62 rfl rfl (fun C136 K_ hK135 => ?_)
              refine J_seq ?_
              refine J_region ?_
              refine JL_q (wants_none rfl) rfl (ex_assign rfl) ?_
              refine JL_nil ?_
              refine N_then ?_
              refine J_seq ?_
              refine J_seq ?_
              refine J_region ?_
              refine JL_q (wants_none rfl) rfl (ex_move rfl) ?_
              refine JL_q (wants_none rfl) rfl (ex_eql rfl rfl) ?_
              refine JL_q (wants_none rfl) rfl (ex_move rfl) ?_
              refine JL_cond (fun h137 => ?_) (fun h137 => ?_)
              · refine JL_q (wants_some rfl rfl rfl h137) rfl (ex_move rfl) ?_
                refine JL_q (wants_some rfl rfl rfl h137) rfl (ex_len_ow 6 Try.underlying27 rfl rfl) ?_
                refine JL_q (wants_some rfl rfl rfl h137) rfl (ex_eql rfl rfl) ?_
                refine JL_q (wants_none rfl) rfl (ex_pick_true rfl h137 rfl) ?_
                refine JL_nil ?_
                refine N_then ?_
                refine J_if_true rfl h132 ?_
                refine J_seq ?_
                refine J_region ?_
                refine JL_q (wants_none rfl) rfl (ex_move rfl) ?_
                refine JL_q (wants_none rfl) rfl (ex_assign rfl) ?_
                refine JL_nil ?_
                refine N_then ?_
                refine J_ret ?_
                refine N_then_ret ?_
                refine N_inlD1 hK135 rfl (rv_tmp rfl) 0 [2] rfl rfl ?_
                refine JD_take (i := 14) hp28 rfl (by kernel_rfl) (by kernel_rfl) (by kernel_rfl) (wants_none rfl) rfl (ex_nilCheck rfl) ?_
                refine JD_take (i := 15) hp28 rfl (by kernel_rfl) (by kernel_rfl) (by kernel_rfl) (wants_none rfl) rfl (ex_fieldAddr fi_78_3 rfl rfl) ?_
                refine JD_one (i := 16) (by kernel_rfl) ?_
                refine JO_sk rfl (wants_none rfl) (sk_store_bx' 4 ti_27 rfl rfl (fun w hh => (hh.cv_ow 6 rfl)) rfl rfl rfl rfl) (sub_bx 0 rfl) ?_
                refine JD_done (by kernel_rfl) ?_
                exact N_meet' v7 ⟨rfl, rfl, trivial⟩ [8, 3, 5, 6, 4, 2, 7] rfl rfl
              · refine JL_passed rfl rfl rfl h137 ?_
                refine JL_passed rfl rfl rfl h137 ?_
                refine JL_passed rfl rfl rfl h137 ?_
                refine JL_q (wants_none rfl) rfl (ex_pick_false rfl h137 rfl) ?_
                refine JL_nil ?_
                refine N_then ?_
                refine J_if_false rfl rfl ?_
                refine J_skip ?_
                refine N_then ?_
                refine J_seq ?_
                refine J_region ?_
                refine JL_q (wants_none rfl) rfl (ex_move rfl) ?_
                refine JL_q (wants_none rfl) rfl (ex_move rfl) ?_
                refine JL_st (wants_none rfl) rfl (st_buildSlice (vs := [.int .i64 r133]) ([r133] : List Int) Try.underlying27 ti_2 zi_2 rfl rfl rfl (fun w hh => ⟨(Rd.mk_int _ _ _), trivial⟩)) (fun b138 => ?_)
                refine JL_bnd fun z139 hz140 => ?_
                refine JL_st (wants_none rfl) rfl (st_append 7 Try.underlying27 ti_2 zi_2 rfl bi_2 rfl rfl rfl rfl (fun w hh => hh.src_ow 0 rfl) hz140) (fun v141 => ?_)
                refine JL_q (wants_none rfl) rfl (ex_assign rfl) ?_
                refine JL_nil ?_
                refine N_then ?_
                refine J_ret ?_
                refine N_inlD1 hK135 rfl (rv_tmp rfl) 1 [3] rfl rfl ?_
                refine JD_take (i := 14) hp28 rfl (by kernel_rfl) (by kernel_rfl) (by kernel_rfl) (wants_none rfl) rfl (ex_nilCheck rfl) ?_
                refine JD_take (i := 15) hp28 rfl (by kernel_rfl) (by kernel_rfl) (by kernel_rfl) (wants_none rfl) rfl (ex_fieldAddr fi_78_3 rfl rfl) ?_
                refine JD_one (i := 16) (by kernel_rfl) ?_
                refine JO_sk rfl (wants_none rfl) (sk_store_bx' 5 ti_27 rfl rfl (fun w hh => (hh.cv_ow 7 rfl)) rfl rfl rfl rfl) (sub_bx 0 rfl) ?_
                refine JD_done (by kernel_rfl) ?_
                exact N_meet' v141 ⟨rfl, rfl, trivial⟩ [9, 4, 6, 7, 5, 3, 8] rfl rfl
            · refine J_skip ?_
              refine N_then ?_
              refine J_seq ?_
              refine J_region ?_
              refine JL_q (wants_none rfl) rfl (ex_move rfl) ?_
              refine JL_q (wants_none rfl) rfl (ex_move rfl) ?_
              refine JL_st (wants_none rfl) rfl (st_buildSlice (vs := [.int .i64 r1.Write]) ([r1.Write] : List Int) Try.underlying27 ti_2 zi_2 rfl rfl rfl (fun w hh => ⟨(Rd.mk_int _ _ _), trivial⟩)) (fun b142 => ?_)
              refine JL_bnd fun z143 hz144 => ?_
              refine JL_st (wants_none rfl) rfl (st_append 6 Try.underlying27 ti_2 zi_2 rfl bi_2 rfl rfl rfl rfl (fun w hh => hh.src_ow 0 rfl) hz144) (fun v145 => ?_)
              refine JL_q (wants_none rfl) rfl (ex_assign rfl) ?_
              refine JL_nil ?_
              refine N_then ?_
              refine J_ret ?_
              refine N_inlD1 hK129 rfl (rv_tmp rfl) 1 [2] rfl rfl ?_
              refine JD_bnd fun r146 hr147 => ?_
              refine JD_one (i := 12) (by kernel_rfl) ?_
              refine JO_call rfl (wants_none rfl) rfl Try.call63 rfl (Ca_of0 fun w hh => c_impl_nearest _ w (fun _ hk => hk.elim) _ _ (hh.ow0 5 rfl) _ hr147) (fun _ => ?_)
              refine JD_one (i := 13) (by kernel_rfl) ?_
              refine JO_inline h1_30 [2, 3, 4] [0] rfl rfl rfl rfl (wants_none rfl) rfl Try.call62 rfl Try.func62 rfl Try.ntmps62 rfl rfl (fun C149 K_ hK148 => ?_)
              refine J_seq ?_
              refine J_region ?_
              refine JL_q (wants_none rfl) rfl (ex_assign rfl) ?_
              refine JL_nil ?_
              refine N_then ?_
              refine J_seq ?_
              refine J_seq ?_
              refine J_region ?_
              refine JL_q (wants_none rfl) rfl (ex_move rfl) ?_
              refine JL_q (wants_none rfl) rfl (ex_eql rfl rfl) ?_
              refine JL_q (wants_none rfl) rfl (ex_move rfl) ?_
              refine JL_cond (fun h150 => ?_) (fun h150 => ?_)
              · refine JL_q (wants_some rfl rfl rfl h150) rfl (ex_move rfl) ?_
                refine JL_q (wants_some rfl rfl rfl h150) rfl (ex_len_ow 7 Try.underlying27 rfl rfl) ?_
                refine JL_q (wants_some rfl rfl rfl h150) rfl (ex_eql rfl rfl) ?_
                refine JL_q (wants_none rfl) rfl (ex_pick_true rfl h150 rfl) ?_
                refine JL_nil ?_
                refine N_then ?_
                refine J_if rfl (fun h151 => ?_) (fun h151 => ?_)
                · refine J_seq ?_
                  refine J_region ?_
                  refine JL_q (wants_none rfl) rfl (ex_move rfl) ?_
                  refine JL_q (wants_none rfl) rfl (ex_assign rfl) ?_
                  refine JL_nil ?_
                  refine N_then ?_
                  refine J_ret ?_
                  refine N_then_ret ?_
                  refine N_inlD1 hK148 rfl (rv_tmp rfl) 0 [3] rfl rfl ?_
                  refine JD_take (i := 14) hp28 rfl (by kernel_rfl) (by kernel_rfl) (by kernel_rfl) (wants_none rfl) rfl (ex_nilCheck rfl) ?_
                  refine JD_take (i := 15) hp28 rfl (by kernel_rfl) (by kernel_rfl) (by kernel_rfl) (wants_none rfl) rfl (ex_fieldAddr fi_78_3 rfl rfl) ?_
                  refine JD_one (i := 16) (by kernel_rfl) ?_
                  refine JO_sk rfl (wants_none rfl) (sk_store_bx' 5 ti_27 rfl rfl (fun w hh => (hh.cv_ow 7 rfl)) rfl rfl rfl rfl) (sub_bx 0 rfl) ?_
                  refine JD_done (by kernel_rfl) ?_
                  exact N_meet' v145 ⟨rfl, rfl, trivial⟩ [9, 4, 6, 7, 5, 3, 8] rfl rfl
                · refine J_skip ?_
                  refine N_then ?_
                  refine J_seq ?_
                  refine J_region ?_
                  refine JL_q (wants_none rfl) rfl (ex_move rfl) ?_
                  refine JL_q (wants_none rfl) rfl (ex_move rfl) ?_
                  refine JL_st (wants_none rfl) rfl (st_buildSlice (vs := [.int .i64 r146]) ([r146] : List Int) Try.underlying27 ti_2 zi_2 rfl rfl rfl (fun w hh => ⟨(Rd.mk_int _ _ _), trivial⟩)) (fun b152 => ?_)
                  refine JL_bnd fun z153 hz154 => ?_
                  refine JL_st (wants_none rfl) rfl (st_append 8 Try.underlying27 ti_2 zi_2 rfl bi_2 rfl rfl rfl rfl (fun w hh => hh.src_ow 0 rfl) hz154) (fun v155 => ?_)
                  refine JL_q (wants_none rfl) rfl (ex_assign rfl) ?_
                  refine JL_nil ?_
                  refine N_then ?_
                  refine J_ret ?_
                  refine N_inlD1 hK148 rfl (rv_tmp rfl) 1 [4] rfl rfl ?_
                  refine JD_take (i := 14) hp28 rfl (by kernel_rfl) (by kernel_rfl) (by kernel_rfl) (wants_none rfl) rfl (ex_nilCheck rfl) ?_
                  refine JD_take (i := 15) hp28 rfl (by kernel_rfl) (by kernel_rfl) (by kernel_rfl) (wants_none rfl) rfl (ex_fieldAddr fi_78_3 rfl rfl) ?_
                  refine JD_one (i := 16) (by kernel_rfl) ?_
                  refine JO_sk rfl (wants_none rfl) (sk_store_bx' 6 ti_27 rfl rfl (fun w hh => (hh.cv_ow 8 rfl)) rfl rfl rfl rfl) (sub_bx 0 rfl) ?_
                  refine JD_done (by kernel_rfl) ?_
                  exact N_meet' v155 ⟨rfl, rfl, trivial⟩ [10, 5, 7, 8, 6, 4, 9] rfl rfl
              · refine JL_passed rfl rfl rfl h150 ?_
                refine JL_passed rfl rfl rfl h150 ?_
                refine JL_passed rfl rfl rfl h150 ?_
                refine JL_q (wants_none rfl) rfl (ex_pick_false rfl h150 rfl) ?_
                refine JL_nil ?_
                refine N_then ?_
                refine J_if_false rfl rfl ?_
                refine J_skip ?_
                refine N_then ?_
                refine J_seq ?_
                refine J_region ?_
                refine JL_q (wants_none rfl) rfl (ex_move rfl) ?_
                refine JL_q (wants_none rfl) rfl (ex_move rfl) ?_
                refine JL_st (wants_none rfl) rfl (st_buildSlice (vs := [.int .i64 r146]) ([r146] : List Int) Try.underlying27 ti_2 zi_2 rfl rfl rfl (fun w hh => ⟨(Rd.mk_int _ _ _), trivial⟩)) (fun b156 => ?_)
                refine JL_bnd fun z157 hz158 => ?_
                refine JL_st (wants_none rfl) rfl (st_append 8 Try.underlying27 ti_2 zi_2 rfl bi_2 rfl rfl rfl rfl (fun w hh => hh.src_ow 0 rfl) hz158) (fun v159 => ?_)
                refine JL_q (wants_none rfl) rfl (ex_assign rfl) ?_
                refine JL_nil ?_
                refine N_then ?_
                refine J_ret ?_
                refine N_inlD1 hK148 rfl (rv_tmp rfl) 1 [4] rfl rfl ?_
                refine JD_take (i := 14) hp28 rfl (by kernel_rfl) (by kernel_rfl) (by kernel_rfl) (wants_none rfl) rfl (ex_nilCheck rfl) ?_
                refine JD_take (i := 15) hp28 rfl (by kernel_rfl) (by kernel_rfl) (by kernel_rfl) (wants_none rfl) rfl (ex_fieldAddr fi_78_3 rfl rfl) ?_
                refine JD_one (i := 16) (by kernel_rfl) ?_
                refine JO_sk rfl (wants_none rfl) (sk_store_bx' 6 ti_27 rfl rfl (fun w hh => (hh.cv_ow 8 rfl)) rfl rfl rfl rfl) (sub_bx 0 rfl) ?_
                refine JD_done (by kernel_rfl) ?_
                exact N_meet' v159 ⟨rfl, rfl, trivial⟩ [10, 5, 7, 8, 6, 4, 9] rfl rfl
          · refine JL_passed rfl rfl rfl h131 ?_
            refine JL_passed rfl rfl rfl h131 ?_
            refine JL_passed rfl rfl rfl h131 ?_
            refine JL_q (wants_none rfl) rfl (ex_pick_false rfl h131 rfl) ?_
            refine JL_nil ?_
            refine N_then ?_
            refine J_if_false rfl rfl ?_
            refine J_skip ?_
            refine N_then ?_
            refine J_seq ?_
            refine J_region ?_
            refine JL_q (wants_none rfl) rfl (ex_move rfl) ?_
            refine JL_q (wants_none rfl) rfl (ex_move rfl) ?_
            refine JL_st (wants_none rfl) rfl (st_buildSlice (vs := [.int .i64 r1.Write]) ([r1.Write] : List Int) Try.underlying27 ti_2 zi_2 rfl rfl rfl (fun w hh => ⟨(Rd.mk_int _ _ _), trivial⟩)) (fun b160 => ?_)
            refine JL_bnd fun z161 hz162 => ?_
            refine JL_st (wants_none rfl) rfl (st_append 6 Try.underlying27 ti_2 zi_2 rfl bi_2 rfl rfl rfl rfl (fun w hh => hh.src_ow 0 rfl) hz162) (fun v163 => ?_)
            refine JL_q (wants_none rfl) rfl (ex_assign rfl) ?_
            refine JL_nil ?_
            refine N_then ?_
            refine J_ret ?_
            refine N_inlD1 hK129 rfl (rv_tmp rfl) 1 [2] rfl rfl ?_
            refine JD_bnd fun r164 hr165 => ?_
            refine JD_one (i := 12) (by kernel_rfl) ?_
            refine JO_call rfl (wants_none rfl) rfl Try.call63 rfl (Ca_of0 fun w hh => c_impl_nearest _ w (fun _ hk => hk.elim) _ _ (hh.ow0 5 rfl) _ hr165) (fun _ => ?_)
            refine JD_one (i := 13) (by kernel_rfl) ?_
            refine JO_inline h1_30 [2, 3, 4] [0] rfl rfl rfl rfl (wants_none rfl) rfl Try.call62 rfl Try.func62 rfl Try.ntmps62 rfl rfl (fun C167 K_ hK166 => ?_)
            refine J_seq ?_
            refine J_region ?_
            refine JL_q (wants_none rfl) rfl (ex_assign rfl) ?_
            refine JL_nil ?_
            refine N_then ?_
            refine J_seq ?_
            refine J_seq ?_
            refine J_region ?_
            refine JL_q (wants_none rfl) rfl (ex_move rfl) ?_
            refine JL_q (wants_none rfl) rfl (ex_eql rfl rfl) ?_
            refine JL_q (wants_none rfl) rfl (ex_move rfl) ?_
            refine JL_cond (fun h168 => ?_) (fun h168 => ?_)
            · refine JL_q (wants_some rfl rfl rfl h168) rfl (ex_move rfl) ?_
              refine JL_q (wants_some rfl rfl rfl h168) rfl (ex_len_ow 7 Try.underlying27 rfl rfl) ?_
              refine JL_q (wants_some rfl rfl rfl h168) rfl (ex_eql rfl rfl) ?_
              refine JL_q (wants_none rfl) rfl (ex_pick_true rfl h168 rfl) ?_
              refine JL_nil ?_
              refine N_then ?_
              refine J_if rfl (fun h169 => ?_) (fun h169 => ?_)
              · refine J_seq ?_
                refine J_region ?_
                refine JL_q (wants_none rfl) rfl (ex_move rfl) ?_
                refine JL_q (wants_none rfl) rfl (ex_assign rfl) ?_
                refine JL_nil ?_
                refine N_then ?_
                refine J_ret ?_
                refine N_then_ret ?_
                refine N_inlD1 hK166 rfl (rv_tmp rfl) 0 [3] rfl rfl ?_
                refine JD_take (i := 14) hp28 rfl (by kernel_rfl) (by kernel_rfl) (by kernel_rfl) (wants_none rfl) rfl (ex_nilCheck rfl) ?_
                refine JD_take (i := 15) hp28 rfl (by kernel_rfl) (by kernel_rfl) (by kernel_rfl) (wants_none rfl) rfl (ex_fieldAddr fi_78_3 rfl rfl) ?_
                refine JD_one (i := 16) (by kernel_rfl) ?_
                refine JO_sk rfl (wants_none rfl) (sk_store_bx' 5 ti_27 rfl rfl (fun w hh => (hh.cv_ow 7 rfl)) rfl rfl rfl rfl) (sub_bx 0 rfl) ?_
                refine JD_done (by kernel_rfl) ?_
                exact N_meet' v163 ⟨rfl, rfl, trivial⟩ [9, 4, 6, 7, 5, 3, 8] rfl rfl
              · refine J_skip ?_
                refine N_then ?_
                refine J_seq ?_
                refine J_region ?_
                refine JL_q (wants_none rfl) rfl (ex_move rfl) ?_
                refine JL_q (wants_none rfl) rfl (ex_move rfl) ?_
                refine JL_st (wants_none rfl) rfl (st_buildSlice (vs := [.int .i64 r164]) ([r164] : List Int) Try.underlying27 ti_2 zi_2 rfl rfl rfl (fun w hh => ⟨(Rd.mk_int _ _ _), trivial⟩)) (fun b170 => ?_)
                refine JL_bnd fun z171 hz172 => ?_
                refine JL_st (wants_none rfl) rfl (st_append 8 Try.underlying27 ti_2 zi_2 rfl bi_2 rfl rfl rfl rfl (fun w hh => hh.src_ow 0 rfl) hz172) (fun v173 => ?_)
                refine JL_q (wants_none rfl) rfl (ex_assign rfl) ?_
                refine JL_nil ?_
                refine N_then ?_
                refine J_ret ?_
                refine N_inlD1 hK166 rfl (rv_tmp rfl) 1 [4] rfl rfl ?_
                refine JD_take (i := 14) hp28 rfl (by kernel_rfl) (by kernel_rfl) (by kernel_rfl) (wants_none rfl) rfl (ex_nilCheck rfl) ?_
                refine JD_take (i := 15) hp28 rfl (by kernel_rfl) (by kernel_rfl) (by kernel_rfl) (wants_none rfl) rfl (ex_fieldAddr fi_78_3 rfl rfl) ?_
                refine JD_one (i := 16) (by kernel_rfl) ?_
                refine JO_sk rfl (wants_none rfl) (sk_store_bx' 6 ti_27 rfl rfl (fun w hh => (hh.cv_ow 8 rfl)) rfl rfl rfl rfl) (sub_bx 0 rfl) ?_
                refine JD_done (by kernel_rfl) ?_
                exact N_meet' v173 ⟨rfl, rfl, trivial⟩ [10, 5, 7, 8, 6, 4, 9] rfl rfl
            · refine JL_passed rfl rfl rfl h168 ?_
              refine JL_passed rfl rfl rfl h168 ?_
              refine JL_passed rfl rfl rfl h168 ?_
              refine JL_q (wants_none rfl) rfl (ex_pick_false rfl h168 rfl) ?_
              refine JL_nil ?_
              refine N_then ?_
              refine J_if_false rfl rfl ?_
              refine J_skip ?_
              refine N_then ?_
              refine J_seq ?_
              refine J_region ?_
              refine JL_q (wants_none rfl) rfl (ex_move rfl) ?_
              refine JL_q (wants_none rfl) rfl (ex_move rfl) ?_
              refine JL_st (wants_none rfl) rfl (st_buildSlice (vs := [.int .i64 r164]) ([r164] : List Int) Try.underlying27 ti_2 zi_2 rfl rfl rfl (fun w hh => ⟨(Rd.mk_int _ _ _), trivial⟩)) (fun b174 => ?_)
              refine JL_bnd fun z175 hz176 => ?_
              refine JL_st (wants_none rfl) rfl (st_append 8 Try.underlying27 ti_2 zi_2 rfl bi_2 rfl rfl rfl rfl (fun w hh => hh.src_ow 0 rfl) hz176) (fun v177 => ?_)
              refine JL_q (wants_none rfl) rfl (ex_assign rfl) ?_
              refine JL_nil ?_
              refine N_then ?_
              refine J_ret ?_
              refine N_inlD1 hK166 rfl (rv_tmp rfl) 1 [4] rfl rfl ?_
              refine JD_take (i := 14) hp28 rfl (by kernel_rfl) (by kernel_rfl) (by kernel_rfl) (wants_none rfl) rfl (ex_nilCheck rfl) ?_
              refine JD_take (i := 15) hp28 rfl (by kernel_rfl) (by kernel_rfl) (by kernel_rfl) (wants_none rfl) rfl (ex_fieldAddr fi_78_3 rfl rfl) ?_
              refine JD_one (i := 16) (by kernel_rfl) ?_
              refine JO_sk rfl (wants_none rfl) (sk_store_bx' 6 ti_27 rfl rfl (fun w hh => (hh.cv_ow 8 rfl)) rfl rfl rfl rfl) (sub_bx 0 rfl) ?_
              refine JD_done (by kernel_rfl) ?_
              exact N_meet' v177 ⟨rfl, rfl, trivial⟩ [10, 5, 7, 8, 6, 4, 9] rfl rfl
      · refine N_then ?_
        refine J_region ?_
        refine JL_q (wants_none rfl) rfl (ex_move rfl) ?_
        refine JL_q (wants_none rfl) rfl (ex_move rfl) ?_
        refine JL_q (wants_none rfl) rfl (ex_nilCheck rfl) ?_
        refine JL_q (wants_none rfl) rfl (ex_fieldAddr fi_78_2 rfl rfl) ?_
        refine JL_q (wants_none rfl) rfl (ex_load_bx 4 ti_27 rfl rfl rfl) ?_
        refine JL_inline (wants_none rfl) rfl Try.call61 rfl Try.func61 rfl Try.ntmps61 rfl rfl (fun K_ hK178 => ?_)
        refine J_seq ?_
        refine J_region ?_
        refine JL_q (wants_none rfl) rfl (ex_assign rfl) ?_
        refine JL_nil ?_
        refine N_then ?_
        refine J_seq ?_
        refine J_region ?_
        refine JL_q (wants_none rfl) rfl (ex_move rfl) ?_
        refine JL_q (wants_none rfl) rfl (ex_move rfl) ?_
        refine JL_q (wants_none rfl) rfl (ex_len_ow 2 Try.underlying27 rfl rfl) ?_
        refine JL_q (wants_none rfl) rfl (ex_sub rfl rfl) ?_
        refine JL_q (wants_none rfl) rfl (ex_max rfl rfl) ?_
        refine JL_bnd fun z179 hz180 => ?_
        refine JL_st (wants_none rfl) rfl (st_slice_own 2 Try.underlying27 ti_2 rfl rfl rfl hz180) (fun v181 => ?_)
        refine JL_q (wants_none rfl) rfl (ex_assign rfl) ?_
        refine JL_nil ?_
        refine N_then ?_
        refine J_ret ?_
        refine N_inl1 hK178 rfl (rv_tmp rfl) ?_
        refine JL_q (wants_none rfl) rfl (ex_nilCheck rfl) ?_
        refine JL_q (wants_none rfl) rfl (ex_fieldAddr fi_78_2 rfl rfl) ?_
        refine JL_sk (wants_none rfl) (sk_store_bx' 4 ti_27 rfl rfl (fun w hh => (hh.cv_ow 2 rfl)) rfl rfl rfl rfl) ?_
        refine JL_nil ?_
        exact N_meet' (v181, g27) ⟨rfl, rfl, trivial⟩ [0, 1, 2, 3, 4, 5, 6] rfl rfl
  · obtain ⟨g9_0, g9_1⟩ := g9
    refine N_then ?_
    refine J_seq ?_
    refine J_region ?_
    refine JL_q (wants_none rfl) rfl (ex_move rfl) ?_
    refine JL_q (wants_none rfl) rfl (ex_fieldAddr fi_49_2 rfl rfl) ?_
    refine JL_q (wants_none rfl) rfl (ex_load_bx 5 ti_2 rfl rfl rfl) ?_
    refine JL_q (wants_none rfl) rfl (ex_nilCheck rfl) ?_
    refine JL_q (wants_none rfl) rfl (ex_fieldAddr fi_78_1 rfl rfl) ?_
    refine JL_sk (wants_none rfl) (sk_store_bx' 4 ti_2 rfl rfl (fun w hh => cv_int) rfl rfl rfl rfl) ?_
    refine JL_nil ?_
    refine N_then ?_
    refine J_seq ?_
    refine J_region ?_
    refine JL_q (wants_none rfl) rfl (ex_move rfl) ?_
    refine JL_q (wants_none rfl) rfl (ex_nilCheck rfl) ?_
    refine JL_q (wants_none rfl) rfl (ex_fieldAddr fi_78_2 rfl rfl) ?_
    refine JL_q (wants_none rfl) rfl (ex_load_bx 4 ti_27 rfl rfl rfl) ?_
    refine JL_q (wants_none rfl) rfl (ex_len_ow 2 Try.underlying27 rfl rfl) ?_
    refine JL_q (wants_none rfl) rfl (ex_leq rfl rfl) ?_
    refine JL_q (wants_none rfl) rfl (ex_move rfl) ?_
    refine JL_cond (fun h182 => ?_) (fun h182 => ?_)
    · refine JL_q (wants_some rfl rfl rfl h182) rfl (ex_move rfl) ?_
      refine JL_q (wants_some rfl rfl rfl h182) rfl (ex_nilCheck rfl) ?_
      refine JL_q (wants_some rfl rfl rfl h182) rfl (ex_fieldAddr fi_78_3 rfl rfl) ?_
      refine JL_q (wants_some rfl rfl rfl h182) rfl (ex_load_bx 4 ti_27 rfl rfl rfl) ?_
      refine JL_q (wants_some rfl rfl rfl h182) rfl (ex_len_ow 3 Try.underlying27 rfl rfl) ?_
      refine JL_q (wants_some rfl rfl rfl h182) rfl (ex_leq rfl rfl) ?_
      refine JL_q (wants_none rfl) rfl (ex_pick_true rfl h182 rfl) ?_
      refine JL_q (wants_none rfl) rfl (ex_assign rfl) ?_
      refine JL_nil ?_
      refine N_then ?_
      refine J_ret ?_
      exact N_ret1 rfl (rv_tmp rfl) (fun w hh => ⟨(g9_0, g9_1), rfl, hh.sel [4, 2, 3, 6, 0] rfl⟩)
    · refine JL_passed rfl rfl rfl h182 ?_
      refine JL_passed rfl rfl rfl h182 ?_
      refine JL_passed rfl rfl rfl h182 ?_
      refine JL_passed rfl rfl rfl h182 ?_
      refine JL_passed rfl rfl rfl h182 ?_
      refine JL_passed rfl rfl rfl h182 ?_
      refine JL_q (wants_none rfl) rfl (ex_pick_false rfl h182 rfl) ?_
      refine JL_q (wants_none rfl) rfl (ex_assign rfl) ?_
      refine JL_nil ?_
      refine N_then ?_
      refine J_ret ?_
      exact N_ret1 rfl (rv_tmp rfl) (fun w hh => ⟨(g9_0, g9_1), rfl, hh.sel [4, 2, 3, 6, 0] rfl⟩)

set_option maxHeartbeats 40000000 in
theorem c_impl_runner_run (w : World) (b0_ : Nat) (p0 : Grunner) (v0_2 : Value) (v0_4 : Value) (v0_5 : Value) (B_ : List Nat) (hB_ : Ctx.owns [.bx b0_ 78 [.int .i64 p0.m_Symbols, .int .i64 p0.m_States, v0_2, .int .i64 p0.state, v0_4, v0_5], .ow 2 v0_4 p0.left, .ow 2 v0_5 p0.right] = B_) (hn_ : PHanded w [.bx b0_ 78 [.int .i64 p0.m_Symbols, .int .i64 p0.m_States, v0_2, .int .i64 p0.state, v0_4, v0_5], .ow 2 v0_4 p0.left, .ow 2 v0_5 p0.right]) (hp0_2 : Rd (fun k => k ∈ B_) w v0_2 p0.m_Rules) (p1 : Int) (r : (Int × Bool × Int) × (Int × (List Int) × (List Int))) (hr : F_impl_runner_run p0 p1 = some r) :
    PtrCon Try.prog 30 [.pointer (some ⟨b0_, 0, none⟩), .int .i64 p1] w B_ (fun x_ : Value × Value => .tuple #[.int .i64 r.1.1, .bool r.1.2.1, .int .i64 r.1.2.2]) (fun x_ => [.bx b0_ 78 [.int .i64 p0.m_Symbols, .int .i64 p0.m_States, v0_2, .int .i64 r.2.1, x_.1, x_.2], .ow 2 x_.1 r.2.2.1, .ow 2 x_.2 r.2.2.2]) := by
  refine PtrCon_of (v := fun (r : (Int × Bool × Int) × (Int × (List Int) × (List Int))) (x_ : Value × Value) => .tuple #[.int .i64 r.1.1, .bool r.1.2.1, .int .i64 r.1.2.2]) (fs := fun r x_ => [.bx b0_ 78 [.int .i64 p0.m_Symbols, .int .i64 p0.m_States, v0_2, .int .i64 r.2.1, x_.1, x_.2], .ow 2 x_.1 r.2.2.1, .ow 2 x_.2 r.2.2.2]) Try.func30 rfl Try.ntmps30 rfl (show SH nowhere (bare w) w [.rd v0_2 p0.m_Rules, .bx b0_ 78 [.int .i64 p0.m_Symbols, .int .i64 p0.m_States, v0_2, .int .i64 p0.state, v0_4, v0_5], .ow 2 v0_4 p0.left, .ow 2 v0_5 p0.right, .tkn (.int .i64 0) (0 : Int) (restL w B_), rest w B_] from ((SH.begin hB_ hn_).cons_apart hB_ hp0_2)) rfl ?_ hr
  unfold F_impl_runner_run
  refine J_seq ?_
  refine J_region ?_
  refine JL_st (wants_none rfl) rfl (st_alloc zi_2 rfl) (fun b1 => ?_)
  refine JL_st (wants_none rfl) rfl (st_alloc zi_4 rfl) (fun b2 => ?_)
  refine JL_st (wants_none rfl) rfl (st_alloc zi_2 rfl) (fun b3 => ?_)
  refine JL_nil ?_
  refine N_then ?_
  refine J_seq ?_
  refine J_region ?_
  refine JL_st (wants_none rfl) rfl (st_alloc zi_2 rfl) (fun b4 => ?_)
  refine JL_sk (wants_none rfl) (sk_store_bx' 0 ti_2 rfl rfl (fun w hh => cv_int) rfl rfl rfl rfl) ?_
  refine JL_nil ?_
  refine N_then ?_
  refine J_seq ?_
  refine J_seq ?_
  refine J_region ?_
  refine JL_q (wants_none rfl) rfl (ex_move rfl) ?_
  refine JL_q (wants_none rfl) rfl (ex_move rfl) ?_
  refine JL_inline (wants_none rfl) rfl Try.call44 rfl Try.func44 rfl Try.ntmps44 rfl rfl (fun K_ hK5 => ?_)
  refine J_seq ?_
  refine J_region ?_
  refine JL_st (wants_none rfl) rfl (st_box' rfl (fun w hh => cv_ptr)) (fun b6 => ?_)
  refine JL_st (wants_none rfl) rfl (st_box' rfl (fun w hh => cv_int)) (fun b7 => ?_)
  refine JL_q (wants_none rfl) rfl (ex_assign rfl) ?_
  refine JL_nil ?_
  refine N_then ?_
  refine J_seq ?_
  refine J_region ?_
  refine JL_q (wants_none rfl) rfl (ex_makeFunc rfl) ?_
  refine JL_q (wants_none rfl) rfl (ex_assign rfl) ?_
  refine JL_nil ?_
  refine N_then ?_
  refine J_ret ?_
  refine N_inl1 hK5 rfl (rv_tmp rfl) ?_
  refine JL_nil ?_
  refine N_then ?_
  refine J_block ?_
  refine J_rangef (lb := [.pointer (some ⟨b7, 0, none⟩), .pointer (some ⟨b6, 0, none⟩)]) [.ret] rfl Try.call54 Try.func54 rfl Try.ntmps54 rfl rfl (fun l_8 D_9 L_10 K_12 hL11 hK13 => ?_)
  refine J_seq ?_
  refine J_region ?_
  refine JL_q (wants_none rfl) rfl (ex_assign rfl) ?_
  refine JL_nil ?_
  refine N_then ?_
  refine J_loop' (S := Int × (List Int) × (List Int) × Int × Int) (G := Value × Value) (F_impl_runner_run_L1 p0 p1) (fun s14 g15 => [(0, .func (.yield l_8) #[] #[]), (1, .pointer (some ⟨b7, 0, none⟩)), (2, .pointer (some ⟨b6, 0, none⟩)), (4, .int .i64 s14.2.2.2.1)]) (fun s14 g15 => [lpF l_8 L_10 [.ret] 0, dfF D_9, rest w B_, .bx b7 2 [.int .i64 p1], .rd v0_2 p0.m_Rules, .ow 2 g15.1 s14.2.1, .ow 2 g15.2 s14.2.2.1, .bx b0_ 78 [.int .i64 p0.m_Symbols, .int .i64 p0.m_States, v0_2, .int .i64 s14.1, g15.1, g15.2], .bx b6 60 [.pointer (some ⟨b0_, 0, none⟩)], .tkn (.int .i64 0) (0 : Int) (restL w B_), .bx b1 2 [.int .i64 0], .bx b2 4 [.bool false], .bx b3 2 [.int .i64 0], .bx b4 2 [.int .i64 s14.2.2.2.2]]) (p0.state, p0.left, p0.right, 0, 0) (v0_4, v0_5) ⟨rfl, rfl, rfl, rfl, trivial⟩ [0, 1, 13, 2, 8, 10, 11, 9, 3, 12, 7, 6, 5, 4] rfl rfl (fun s14 g15 => ?_) (fun s14 g15 => ?_)
  · obtain ⟨g15_0, g15_1⟩ := g15
    unfold F_impl_runner_run_L1
    refine J_seq ?_
    refine J_seq ?_
    refine J_regionY 2 ?_
    refine JL_q (wants_none rfl) rfl (ex_move rfl) ?_
    refine JL_q (wants_none rfl) rfl (ex_move rfl) ?_
    refine JL_nil ?_
    refine N_yield rfl (wants_none rfl) rfl rfl rfl 0 rfl hL11 rfl rfl rfl (fun KY_16 hKY17 => ?_)
    refine J_seq ?_
    refine J_regionR rfl ?_
    refine JL_q (wants_none rfl) rfl (ex_assign rfl) ?_
    refine JL_nil ?_
    refine N_then ?_
    refine J_regionR rfl ?_
    refine JL_q (wants_none rfl) rfl (ex_assign rfl) ?_
    refine JL_nil ?_
    refine N_begin 0 rfl rfl ?_
    refine J_block ?_
    refine J_seq ?_
    refine J_seq ?_
    refine J_regionR rfl ?_
    refine JL_q (wants_none rfl) rfl (ex_move rfl) ?_
    refine JL_q (wants_none rfl) rfl (ex_not rfl) ?_
    refine JL_nil ?_
    refine N_then ?_
    refine J_if_false rfl rfl ?_
    refine J_skip ?_
    refine N_then ?_
    refine J_regionR rfl ?_
    refine JL_q (wants_none rfl) rfl (ex_move rfl) ?_
    refine JL_sk (wants_none rfl) (sk_store_bx' 13 ti_2 rfl rfl (fun w hh => cv_int) rfl rfl rfl rfl) ?_
    refine JL_nil ?_
    refine N_block ?_
    refine N_endRound (js := [.ret]) 0 true rfl rfl 0 rfl hKY17 ?_
    refine JL_q (wants_none rfl) rfl (ex_move rfl) ?_
    refine JL_q (wants_some rfl rfl rfl rfl) rfl (ex_move rfl) ?_
    refine JL_q (wants_some rfl rfl rfl rfl) rfl (ex_load_bx 3 ti_2 rfl rfl rfl) ?_
    refine JL_q (wants_some rfl rfl rfl rfl) rfl (ex_lss rfl rfl) ?_
    refine JL_q (wants_none rfl) rfl (ex_pick_true rfl rfl rfl) ?_
    refine JL_q (wants_none rfl) rfl (ex_move rfl) ?_
    refine JL_cond (fun h18 => ?_) (fun h18 => ?_)
    · refine JL_q (wants_some rfl rfl rfl h18) rfl (ex_load_bx 8 ti_60 rfl rfl rfl) ?_
      refine JL_bnd fun r19 hr20 => ?_
      refine JL_call (wants_some rfl rfl rfl h18) rfl Try.call45 rfl (Ca_of0 fun w hh => c_impl_runner_halts _ w (fun _ hk => hk.elim) _ _ (hh.bx_pa 7 rfl (Grunner.rdmk (Rd.mk_int _ _ _) (Rd.mk_int _ _ _) (hh.rd0 4 rfl) (Rd.mk_int _ _ _) (hh.ow0 5 rfl) (hh.ow0 6 rfl)) rfl) _ hr20) (fun _ => ?_)
      refine JL_q (wants_some rfl rfl rfl h18) rfl (ex_not rfl) ?_
      refine JL_q (wants_none rfl) rfl (ex_pick_true rfl h18 rfl) ?_
      refine JL_nil ?_
      refine N_then ?_
      refine J_if rfl (fun h21 => ?_) (fun h21 => ?_)
      · refine J_skip ?_
        refine N_then ?_
        refine J_seq ?_
        refine J_block ?_
        refine J_seq ?_
        refine J_region ?_
        refine JL_q (wants_none rfl) rfl (ex_load_bx 8 ti_60 rfl rfl rfl) ?_
        refine JL_bnd fun r22 hr23 => ?_
        refine JL_callT (wants_none rfl) rfl Try.call55 rfl (CaT_of [7, 5, 6] [0, 1, 2, 3, 4, 8, 9, 10, 11, 12, 13] rfl rfl (fun _ => rfl) fun w hh => c_impl_runner_step w b0_ (⟨p0.m_Symbols, p0.m_States, p0.m_Rules, s14.1, s14.2.1, s14.2.2.1⟩ : Grunner) v0_2 g15_0 g15_1 _ rfl (hh.handed [7, 5, 6] rfl rfl rfl rfl) (hh.apart [7, 5, 6] rfl (hh.rd 4 rfl)) _ hr23) (fun x24 => ?_)
        obtain ⟨x24_0, x24_1⟩ := x24
        refine JL_q (wants_none rfl) rfl (ex_not rfl) ?_
        refine JL_nil ?_
        refine N_then ?_
        refine J_if rfl (fun h25 => ?_) (fun h25 => ?_)
        · refine J_seq ?_
          refine J_regionY 3 ?_
          refine JL_q (wants_none rfl) rfl (ex_move rfl) ?_
          refine JL_q (wants_none rfl) rfl (ex_move rfl) ?_
          refine JL_q (wants_none rfl) rfl (ex_add rfl rfl) ?_
          refine JL_nil ?_
          refine N_yield rfl (wants_none rfl) rfl rfl rfl 3 rfl hL11 rfl rfl rfl (fun KY_26 hKY27 => ?_)
          refine J_seq ?_
          refine J_regionR rfl ?_
          refine JL_q (wants_none rfl) rfl (ex_assign rfl) ?_
          refine JL_nil ?_
          refine N_then ?_
          refine J_regionR rfl ?_
          refine JL_q (wants_none rfl) rfl (ex_assign rfl) ?_
          refine JL_nil ?_
          refine N_begin 3 rfl rfl ?_
          refine J_block ?_
          refine J_seq ?_
          refine J_seq ?_
          refine J_regionR rfl ?_
          refine JL_q (wants_none rfl) rfl (ex_move rfl) ?_
          refine JL_q (wants_none rfl) rfl (ex_not rfl) ?_
          refine JL_nil ?_
          refine N_then ?_
          refine J_if_true rfl rfl ?_
          refine J_seq ?_
          refine J_regionR rfl ?_
          refine JL_sk (wants_none rfl) (sk_store_bx' 10 ti_2 rfl rfl (fun w hh => cv_int) rfl rfl rfl rfl) ?_
          refine JL_sk (wants_none rfl) (sk_store_bx' 11 ti_4 rfl rfl (fun w hh => cv_bool) rfl rfl rfl rfl) ?_
          refine JL_sk (wants_none rfl) (sk_store_bx' 12 ti_2 rfl rfl (fun w hh => cv_int) rfl rfl rfl rfl) ?_
          refine JL_nil ?_
          refine N_then ?_
          refine J_ret ?_
          refine N_then_ret ?_
          refine N_block_ret ?_
          refine N_endRound (js := [.ret]) 1 false rfl rfl 3 rfl hKY27 ?_
          refine JL_nil ?_
          refine N_then ?_
          refine J_ret ?_
          refine N_block_ret ?_
          refine N_then_ret ?_
          refine N_round_reti ?_
          refine N_inlF 1 .ret (.inl rfl) hK13 rfl rfl 3 rfl ?_
          refine N_block_ret ?_
          refine N_then_ret ?_
          refine N_take 4 (.inl rfl) rfl ?_
          exact N_ret3 rfl (rv_cell1 10 rfl rfl ti_2 rfl) (rv_cell1 11 rfl rfl ti_4 rfl) (rv_cell1 12 rfl rfl ti_2 rfl) (fun w hh => ⟨(x24_0, x24_1), rfl, hh.sel [0, 1, 2, 9, 5] rfl⟩)
        · refine J_skip ?_
          refine N_block ?_
          refine N_then ?_
          refine J_region ?_
          refine JL_q (wants_none rfl) rfl (ex_move rfl) ?_
          refine JL_q (wants_none rfl) rfl (ex_add rfl rfl) ?_
          refine JL_q (wants_none rfl) rfl (ex_assign rfl) ?_
          refine JL_nil ?_
          exact N_next' (x24_0, x24_1) ⟨rfl, rfl, rfl, rfl, trivial⟩ [3, 4, 5, 6, 7, 1, 2, 0, 8, 9, 10, 11, 12, 13] rfl rfl
      · refine J_exit ?_
        refine N_then_exit ?_
        exact N_break' (g15_0, g15_1) ⟨rfl, rfl, rfl, rfl, trivial⟩ [0, 1, 2, 3, 4, 5, 6, 7, 8, 9, 10, 11, 12, 13] rfl rfl
    · refine JL_passed rfl rfl rfl h18 ?_
      refine JL_passed rfl rfl rfl h18 ?_
      refine JL_passed rfl rfl rfl h18 ?_
      refine JL_q (wants_none rfl) rfl (ex_pick_false rfl h18 rfl) ?_
      refine JL_nil ?_
      refine N_then ?_
      refine J_if_false rfl rfl ?_
      refine J_exit ?_
      refine N_then_exit ?_
      exact N_break' (g15_0, g15_1) ⟨rfl, rfl, rfl, rfl, trivial⟩ [0, 1, 2, 3, 4, 5, 6, 7, 8, 9, 10, 11, 12, 13] rfl rfl
  · obtain ⟨g15_0, g15_1⟩ := g15
    refine N_inlF 0 .normal (.inr rfl) hK13 rfl rfl 0 rfl ?_
    refine N_block ?_
    refine N_then ?_
    refine J_seq ?_
    refine J_draw [10, 11, 12] (by kernel_rfl) ?_
    refine JP_take (i := 0) [0, 1, 2, 3, 4, 5, 6, 7, 8, 9, 13] [10, 11, 12] rfl (by kernel_rfl) (by kernel_rfl) (by kernel_rfl) rfl rfl (wants_none rfl) rfl (ex_load_bx 10 ti_2 rfl rfl rfl) ?_
    refine JP_take (i := 1) [0, 1, 2, 3, 4, 5, 6, 7, 8, 9, 13] [10, 11, 12] rfl (by kernel_rfl) (by kernel_rfl) (by kernel_rfl) rfl rfl (wants_none rfl) rfl (ex_move rfl) ?_
    refine JP_go [0, 1, 2, 3, 4, 5, 6, 7, 8, 9, 13] [10, 11, 12] rfl rfl rfl (fun w29 h1_30 hp28 => ?_)
    refine JD_bnd fun r31 hr32 => ?_
    refine JD_one (i := 2) (by kernel_rfl) ?_
    refine JO_call rfl (wants_none rfl) rfl Try.call45 rfl (Ca_of0 fun w hh => c_impl_runner_halts _ w (fun _ hk => hk.elim) _ _ (hh.bx_pa 7 rfl (Grunner.rdmk (Rd.mk_int _ _ _) (Rd.mk_int _ _ _) (hh.rd0 4 rfl) (Rd.mk_int _ _ _) (hh.ow0 5 rfl) (hh.ow0 6 rfl)) rfl) _ hr32) (fun _ => ?_)
    refine JD_one (i := 3) (by kernel_rfl) ?_
    refine JO_sk rfl (wants_none rfl) (sk_store_bx' 10 ti_2 rfl rfl (fun w hh => cv_int) rfl rfl rfl rfl) (sub_bx 0 rfl) ?_
    refine JD_one (i := 4) (by kernel_rfl) ?_
    refine JO_sk rfl (wants_none rfl) (sk_store_bx' 11 ti_4 rfl rfl (fun w hh => cv_bool) rfl rfl rfl rfl) (sub_bx 1 rfl) ?_
    refine JD_one (i := 5) (by kernel_rfl) ?_
    refine JO_sk rfl (wants_none rfl) (sk_store_bx' 12 ti_2 rfl rfl (fun w hh => cv_int) rfl rfl rfl rfl) (sub_bx 2 rfl) ?_
    refine JD_done (by kernel_rfl) ?_
    refine N_then ?_
    refine J_ret ?_
    refine N_take 1 (.inl rfl) rfl ?_
    exact N_ret3 rfl (rv_cell1 10 rfl rfl ti_2 rfl) (rv_cell1 11 rfl rfl ti_4 rfl) (rv_cell1 12 rfl rfl ti_2 rfl) (fun w hh => ⟨(g15_0, g15_1), rfl, hh.sel [7, 5, 6, 9, 2] rfl⟩)

set_option maxHeartbeats 40000000 in
theorem c_impl_runner_config (A : Nat → Prop) (w : World) (hA : ∀ k, A k → k < w.heap.size) (v0_ : Value) (p0 : Grunner) (hp0 : RdA A w.heap.size w v0_ p0) (r : GConfig) (hr : F_impl_runner_config p0 = some r) :
    Con Try.prog 31 [v0_] A w (fun x_ : Value × Value => .agg #[.int .i64 r.State, x_.1, x_.2]) (fun x_ => [.ow 2 x_.1 r.Left, .ow 2 x_.2 r.Right]) := by
  refine Con_of (v := fun (r : GConfig) (x_ : Value × Value) => .agg #[.int .i64 r.State, x_.1, x_.2]) (fs := fun r x_ => [.ow 2 x_.1 r.Left, .ow 2 x_.2 r.Right]) Try.func31 rfl Try.ntmps31 rfl ((SH.start hA).start_pa' rfl hp0) rfl ?_ hr
  unfold F_impl_runner_config
  refine J_seq ?_
  refine J_region ?_
  refine JL_st (wants_none rfl) rfl (st_alloc zi_29 rfl) (fun b1 => ?_)
  refine JL_nil ?_
  refine N_then ?_
  refine J_seq ?_
  refine J_draw [0] (by kernel_rfl) ?_
  refine JP_take (i := 0) [1] [0] rfl (by kernel_rfl) (by kernel_rfl) (by kernel_rfl) rfl rfl (wants_none rfl) rfl (ex_move rfl) ?_
  refine JP_take (i := 1) [1] [0] rfl (by kernel_rfl) (by kernel_rfl) (by kernel_rfl) rfl rfl (wants_none rfl) rfl (ex_nilCheck_pa 0 rfl rfl) ?_
  refine JP_sq (i := 2) [0] rfl (by kernel_rfl) (by kernel_rfl) (by kernel_rfl) rfl (wants_none rfl) rfl (sq_field_pa 1 (Grunner.at_state _) fi_78_1 rfl rfl rfl) (fun q2 => ?_)
  refine JP_sq (i := 3) [1] rfl (by kernel_rfl) (by kernel_rfl) (by kernel_rfl) rfl (wants_none rfl) rfl (sq_load_pa_o 0 (opens_int _) ti_2 rfl rfl) (fun _ => ?_)
  refine JP_take (i := 4) [0, 2] [1] rfl (by kernel_rfl) (by kernel_rfl) (by kernel_rfl) rfl rfl (wants_none rfl) rfl (ex_move rfl) ?_
  refine JP_take (i := 5) [0, 2] [1] rfl (by kernel_rfl) (by kernel_rfl) (by kernel_rfl) rfl rfl (wants_none rfl) rfl (ex_nilCheck_pa 1 rfl rfl) ?_
  refine JP_sq (i := 6) [1] rfl (by kernel_rfl) (by kernel_rfl) (by kernel_rfl) rfl (wants_none rfl) rfl (sq_field_pa 2 (Grunner.at_left _) fi_78_2 rfl rfl rfl) (fun q4 => ?_)
  refine JP_sq (i := 7) [2] rfl (by kernel_rfl) (by kernel_rfl) (by kernel_rfl) rfl (wants_none rfl) rfl (sq_load_pa_o 0 (opens_sl _) ti_27 rfl rfl) (fun v5 => ?_)
  refine JP_take (i := 9) [0, 1, 2, 4] [3] rfl (by kernel_rfl) (by kernel_rfl) (by kernel_rfl) rfl rfl (wants_none rfl) rfl (ex_move rfl) ?_
  refine JP_take (i := 10) [0, 1, 2, 4] [3] rfl (by kernel_rfl) (by kernel_rfl) (by kernel_rfl) rfl rfl (wants_none rfl) rfl (ex_nilCheck_pa 3 rfl rfl) ?_
  refine JP_sq (i := 11) [3] rfl (by kernel_rfl) (by kernel_rfl) (by kernel_rfl) rfl (wants_none rfl) rfl (sq_field_pa 4 (Grunner.at_right _) fi_78_3 rfl rfl rfl) (fun q6 => ?_)
  refine JP_sq (i := 12) [4] rfl (by kernel_rfl) (by kernel_rfl) (by kernel_rfl) rfl (wants_none rfl) rfl (sq_load_pa_o 0 (opens_sl _) ti_27 rfl rfl) (fun v7 => ?_)
  refine JP_go [0, 1, 2, 3, 4, 6] [5] rfl rfl rfl (fun w9 h1_10 hp8 => ?_)
  refine JD_bnd fun r11 hr12 => ?_
  refine JD_one (i := 8) (by kernel_rfl) ?_
  refine JO_call rfl (wants_none rfl) rfl Try.call43 rfl (Ca_self (fun _ => rfl) fun w hh => c_impl_reversed _ w (fun _ hk => hk.elim) _ _ (hh.rd0 2 rfl) _ hr12) (fun x13 => ?_)
  refine JD_bnd fun r14 hr15 => ?_
  refine JD_one (i := 13) (by kernel_rfl) ?_
  refine JO_call rfl (wants_none rfl) rfl Try.call43 rfl (Ca_self (fun _ => rfl) fun w hh => c_impl_reversed _ w (fun _ hk => hk.elim) _ _ (hh.rd0 1 rfl) _ hr15) (fun x16 => ?_)
  refine JD_one (i := 14) (by kernel_rfl) ?_
  refine JO_q rfl (wants_none rfl) rfl (ex_build si_29 rfl (.cons fi_29_0 rfl rfl (.cons fi_29_1 rfl rfl (.cons fi_29_2 rfl rfl .nil))) (fun w hh => ⟨cv_int, (hh.cv_ow 1 rfl), (hh.cv_ow 0 rfl), trivial⟩)) ?_
  refine JD_one (i := 15) (by kernel_rfl) ?_
  refine JO_sk rfl (wants_none rfl) (sk_store_bx' 7 ti_29 rfl rfl (fun w hh => (cv_aggs ⟨cv_int, (hh.cv_ow 1 rfl), (hh.cv_ow 0 rfl), trivial⟩)) rfl rfl rfl rfl) (sub_bx 0 rfl) ?_
  refine JD_done (by kernel_rfl) ?_
  refine N_then ?_
  refine J_ret ?_
  exact N_ret1 rfl (rv_cell 7 rfl rfl ti_29 rfl) (fun w hh => ⟨(x13, x16), rfl, hh.sel [1, 0] rfl⟩)

set_option maxHeartbeats 40000000 in
theorem c_impl_RunMachine (A : Nat → Prop) (w : World) (hA : ∀ k, A k → k < w.heap.size) (v0_ : Value) (p0 : GMachine) (hp0 : Rd A w v0_ p0) (v1_ : Value) (p1 : GConfig) (hp1 : Rd A w v1_ p1) (p2 : Int) (r : GConfig × Int × Bool × Int) (hr : F_impl_RunMachine p0 p1 p2 = some r) :
    Con Try.prog 8 [v0_, v1_, .int .i64 p2] A w (fun x_ : Value × Value => .tuple #[.agg #[.int .i64 r.1.State, x_.1, x_.2], .int .i64 r.2.1, .bool r.2.2.1, .int .i64 r.2.2.2]) (fun x_ => [.ow 2 x_.1 r.1.Left, .ow 2 x_.2 r.1.Right]) := by
  obtain ⟨v0_0, rfl, hp0_0⟩ := GMachine.open hp0
  obtain ⟨v1_0, v1_1, rfl, hp1_0, hp1_1⟩ := GConfig.open hp1
  refine Con_of (v := fun (r : GConfig × Int × Bool × Int) (x_ : Value × Value) => .tuple #[.agg #[.int .i64 r.1.State, x_.1, x_.2], .int .i64 r.2.1, .bool r.2.2.1, .int .i64 r.2.2.2]) (fs := fun r x_ => [.ow 2 x_.1 r.1.Left, .ow 2 x_.2 r.1.Right]) Try.func8 rfl Try.ntmps8 rfl ((((SH.start hA).start_rd rfl hp0_0).start_rd rfl hp1_0).start_rd rfl hp1_1) rfl ?_ hr
  unfold F_impl_RunMachine
  refine J_seq ?_
  refine J_region ?_
  refine JL_st (wants_none rfl) rfl (st_box' rfl (fun w hh => (cv_aggs ⟨cv_int, cv_int, (hh.cv 2 rfl), trivial⟩))) (fun b1 => ?_)
  refine JL_st (wants_none rfl) rfl (st_box' rfl (fun w hh => (cv_aggs ⟨cv_int, (hh.cv 2 rfl), (hh.cv 1 rfl), trivial⟩))) (fun b2 => ?_)
  refine JL_st (wants_none rfl) rfl (st_alloc zi_29 rfl) (fun b3 => ?_)
  refine JL_q (wants_none rfl) rfl (ex_assign rfl) ?_
  refine JL_q (wants_none rfl) rfl (ex_assign rfl) ?_
  refine JL_q (wants_none rfl) rfl (ex_assign rfl) ?_
  refine JL_nil ?_
  refine N_then ?_
  refine J_seq ?_
  refine J_seq ?_
  refine J_region ?_
  refine JL_q (wants_none rfl) rfl (ex_load_bx_agg 2 ti_26 rfl rfl rfl rfl) ?_
  refine JL_q (wants_none rfl) rfl (ex_load_bx_agg 1 ti_29 rfl rfl rfl rfl) ?_
  refine JL_bnd fun r4 hr5 => ?_
  refine JL_call (wants_none rfl) rfl Try.call27 rfl (Ca_of0 fun w hh => c_impl_ValidConfig _ w (fun _ hk => hk.elim) _ _ (GMachine.rdmk (Rd.mk_int _ _ _) (Rd.mk_int _ _ _) (hh.rd0 5 rfl)) _ _ (GConfig.rdmk (Rd.mk_int _ _ _) (hh.rd0 4 rfl) (hh.rd0 3 rfl)) _ hr5) (fun _ => ?_)
  refine JL_q (wants_none rfl) rfl (ex_not rfl) ?_
  refine JL_nil ?_
  refine N_then ?_
  refine J_if rfl (fun h6 => ?_) (fun h6 => ?_)
  · refine J_seq ?_
    refine J_region ?_
    refine JL_q (wants_none rfl) rfl (ex_build si_29 rfl .nil (fun w hh => trivial)) ?_
    refine JL_sk (wants_none rfl) (sk_store_bx' 0 ti_29 rfl rfl (fun w hh => (cv_aggs ⟨cv_int, cv_slice, cv_slice, trivial⟩)) rfl rfl rfl rfl) ?_
    refine JL_q (wants_none rfl) rfl (ex_assign rfl) ?_
    refine JL_q (wants_none rfl) rfl (ex_assign rfl) ?_
    refine JL_q (wants_none rfl) rfl (ex_assign rfl) ?_
    refine JL_nil ?_
    refine N_then ?_
    refine J_ret ?_
    refine N_then_ret ?_
    refine N_ctx (fun w hh => SH.ow_nil (α := Int) 2 hh) ?_
    refine N_ctx (fun w hh => SH.ow_nil (α := Int) 2 hh) ?_
    exact N_ret4 rfl (rv_cell 2 rfl rfl ti_29 rfl) (rv_tmp rfl) (rv_tmp rfl) (rv_tmp rfl) (fun w hh => ⟨((.slice none 0 0 : Value), (.slice none 0 0 : Value)), rfl, hh.sel [1, 0] rfl⟩)
  · refine J_skip ?_
    refine N_then ?_
    refine J_seq ?_
    refine J_seq ?_
    refine J_region ?_
    refine JL_q (wants_none rfl) rfl (ex_move rfl) ?_
    refine JL_bnd fun r7 hr8 => ?_
    refine JL_call (wants_none rfl) rfl Try.call28 rfl (Ca_of0 fun w hh => c_impl_budgetOk _ w (fun _ hk => hk.elim) _ _ hr8) (fun _ => ?_)
    refine JL_q (wants_none rfl) rfl (ex_not rfl) ?_
    refine JL_nil ?_
    refine N_then ?_
    refine J_if rfl (fun h9 => ?_) (fun h9 => ?_)
    · refine J_seq ?_
      refine J_region ?_
      refine JL_q (wants_none rfl) rfl (ex_build si_29 rfl .nil (fun w hh => trivial)) ?_
      refine JL_sk (wants_none rfl) (sk_store_bx' 0 ti_29 rfl rfl (fun w hh => (cv_aggs ⟨cv_int, cv_slice, cv_slice, trivial⟩)) rfl rfl rfl rfl) ?_
      refine JL_q (wants_none rfl) rfl (ex_assign rfl) ?_
      refine JL_q (wants_none rfl) rfl (ex_assign rfl) ?_
      refine JL_q (wants_none rfl) rfl (ex_assign rfl) ?_
      refine JL_nil ?_
      refine N_then ?_
      refine J_ret ?_
      refine N_then_ret ?_
      refine N_ctx (fun w hh => SH.ow_nil (α := Int) 2 hh) ?_
      refine N_ctx (fun w hh => SH.ow_nil (α := Int) 2 hh) ?_
      exact N_ret4 rfl (rv_cell 2 rfl rfl ti_29 rfl) (rv_tmp rfl) (rv_tmp rfl) (rv_tmp rfl) (fun w hh => ⟨((.slice none 0 0 : Value), (.slice none 0 0 : Value)), rfl, hh.sel [1, 0] rfl⟩)
    · refine J_skip ?_
      refine N_then ?_
      refine J_seq ?_
      refine J_region ?_
      refine JL_q (wants_none rfl) rfl (ex_load_bx_agg 2 ti_26 rfl rfl rfl rfl) ?_
      refine JL_q (wants_none rfl) rfl (ex_load_bx_agg 1 ti_29 rfl rfl rfl rfl) ?_
      refine JL_bnd fun r10 hr11 => ?_
      refine JL_call (wants_none rfl) rfl Try.call29 rfl (Ca_of (fun _ => rfl) fun w hh => c_impl_runnerOf _ w hh.av' _ _ (GMachine.rdmk (Rd.mk_int _ _ _) (Rd.mk_int _ _ _) (hh.rd 5 rfl)) _ _ (GConfig.rdmk (Rd.mk_int _ _ _) (hh.rd 4 rfl) (hh.rd 3 rfl)) _ hr11) (fun x12 => ?_)
      obtain ⟨x12_0, x12_1, x12_2, x12_3⟩ := x12
      refine JL_q (wants_none rfl) rfl (ex_assign rfl) ?_
      refine JL_nil ?_
      refine N_then ?_
      refine J_seq ?_
      refine J_region ?_
      refine JL_q (wants_none rfl) rfl (ex_move rfl) ?_
      refine JL_q (wants_none rfl) rfl (ex_move rfl) ?_
      refine JL_bnd fun r13 hr14 => ?_
      refine JL_callT (wants_none rfl) rfl Try.call30 rfl (CaT_of [3, 1, 2] [0, 4, 5, 6, 7, 8, 9] rfl rfl (fun _ => rfl) fun w hh => c_impl_runner_run w x12_3 (⟨r10.1, r10.2.1, r10.2.2.1, r10.2.2.2.1, r10.2.2.2.2.1, r10.2.2.2.2.2⟩ : Grunner) x12_0 x12_1 x12_2 _ rfl (hh.handed [3, 1, 2] rfl rfl rfl rfl) (hh.apart [3, 1, 2] rfl (hh.rd 0 rfl)) _ _ hr14) (fun x15 => ?_)
      obtain ⟨x15_0, x15_1⟩ := x15
      refine JL_q (wants_none rfl) rfl (ex_move rfl) ?_
      refine JL_q (wants_none rfl) rfl (ex_extract rfl rfl) ?_
      refine JL_q (wants_none rfl) rfl (ex_extract rfl rfl) ?_
      refine JL_q (wants_none rfl) rfl (ex_extract rfl rfl) ?_
      refine JL_q (wants_none rfl) rfl (ex_assign rfl) ?_
      refine JL_q (wants_none rfl) rfl (ex_assign rfl) ?_
      refine JL_q (wants_none rfl) rfl (ex_assign rfl) ?_
      refine JL_nil ?_
      refine N_then ?_
      refine J_seq ?_
      refine J_seq ?_
      refine J_region ?_
      refine JL_q (wants_none rfl) rfl (ex_move rfl) ?_
      refine JL_q (wants_none rfl) rfl (ex_neq rfl rfl) ?_
      refine JL_nil ?_
      refine N_then ?_
      refine J_if rfl (fun h16 => ?_) (fun h16 => ?_)
      · refine J_seq ?_
        refine J_region ?_
        refine JL_q (wants_none rfl) rfl (ex_build si_29 rfl .nil (fun w hh => trivial)) ?_
        refine JL_q (wants_none rfl) rfl (ex_move rfl) ?_
        refine JL_sk (wants_none rfl) (sk_store_bx' 4 ti_29 rfl rfl (fun w hh => (cv_aggs ⟨cv_int, cv_slice, cv_slice, trivial⟩)) rfl rfl rfl rfl) ?_
        refine JL_q (wants_none rfl) rfl (ex_assign rfl) ?_
        refine JL_q (wants_none rfl) rfl (ex_assign rfl) ?_
        refine JL_q (wants_none rfl) rfl (ex_assign rfl) ?_
        refine JL_nil ?_
        refine N_then ?_
        refine J_ret ?_
        refine N_then_ret ?_
        refine N_ctx (fun w hh => SH.ow_nil (α := Int) 2 hh) ?_
        refine N_ctx (fun w hh => SH.ow_nil (α := Int) 2 hh) ?_
        exact N_ret4 rfl (rv_cell 6 rfl rfl ti_29 rfl) (rv_tmp rfl) (rv_tmp rfl) (rv_tmp rfl) (fun w hh => ⟨((.slice none 0 0 : Value), (.slice none 0 0 : Value)), rfl, hh.sel [1, 0] rfl⟩)
      · refine J_skip ?_
        refine N_then ?_
        refine J_seq ?_
        refine J_region ?_
        refine JL_q (wants_none rfl) rfl (ex_move rfl) ?_
        refine JL_bnd fun r17 hr18 => ?_
        refine JL_call (wants_none rfl) rfl Try.call31 rfl (Ca_self (fun _ => rfl) fun w hh => c_impl_runner_config _ w (fun _ hk => hk.elim) _ _ (hh.bx_pa 0 rfl (Grunner.rdmk (Rd.mk_int _ _ _) (Rd.mk_int _ _ _) (hh.rd0 3 rfl) (Rd.mk_int _ _ _) (hh.ow0 1 rfl) (hh.ow0 2 rfl)) rfl) _ hr18) (fun x19 => ?_)
        obtain ⟨x19_0, x19_1⟩ := x19
        refine JL_q (wants_none rfl) rfl (ex_move rfl) ?_
        refine JL_q (wants_none rfl) rfl (ex_move rfl) ?_
        refine JL_sk (wants_none rfl) (sk_store_bx' 6 ti_29 rfl rfl (fun w hh => (cv_aggs ⟨cv_int, (hh.cv_ow 0 rfl), (hh.cv_ow 1 rfl), trivial⟩)) rfl rfl rfl rfl) ?_
        refine JL_q (wants_none rfl) rfl (ex_assign rfl) ?_
        refine JL_q (wants_none rfl) rfl (ex_assign rfl) ?_
        refine JL_q (wants_none rfl) rfl (ex_assign rfl) ?_
        refine JL_nil ?_
        refine N_then ?_
        refine J_ret ?_
        exact N_ret4 rfl (rv_cell 6 rfl rfl ti_29 rfl) (rv_tmp rfl) (rv_tmp rfl) (rv_tmp rfl) (fun w hh => ⟨(x19_0, x19_1), rfl, hh.sel [0, 1] rfl⟩)

set_option maxHeartbeats 40000000 in
theorem c_laws_r8Same (A : Nat → Prop) (w : World) (hA : ∀ k, A k → k < w.heap.size) (v0_ : Value) (p0 : (List Int)) (hp0 : Rd A w v0_ p0) (v1_ : Value) (p1 : (List Int)) (hp1 : Rd A w v1_ p1) (r : Bool) (hr : F_laws_r8Same p0 p1 = some r) :
    Con Try.prog 32 [v0_, v1_] A w (fun x_ : Unit => .bool r) (fun x_ => []) := by
  refine Con_of (v := fun (r : Bool) (x_ : Unit) => .bool r) (fs := fun r x_ => []) Try.func32 rfl Try.ntmps32 rfl (((SH.start hA).start_rd rfl hp0).start_rd rfl hp1) rfl ?_ hr
  unfold F_laws_r8Same
  refine J_seq ?_
  refine J_region ?_
  refine JL_q (wants_none rfl) rfl (ex_assign rfl) ?_
  refine JL_nil ?_
  refine N_then ?_
  refine J_seq ?_
  refine J_seq ?_
  refine J_region ?_
  refine JL_q (wants_none rfl) rfl (ex_move rfl) ?_
  refine JL_q (wants_none rfl) rfl (ex_len_rd 1 Try.underlying27 rfl rfl) ?_
  refine JL_q (wants_none rfl) rfl (ex_move rfl) ?_
  refine JL_q (wants_none rfl) rfl (ex_len_rd 0 Try.underlying27 rfl rfl) ?_
  refine JL_q (wants_none rfl) rfl (ex_neq rfl rfl) ?_
  refine JL_nil ?_
  refine N_then ?_
  refine J_if rfl (fun h1 => ?_) (fun h1 => ?_)
  · refine J_seq ?_
    refine J_region ?_
    refine JL_q (wants_none rfl) rfl (ex_assign rfl) ?_
    refine JL_nil ?_
    refine N_then ?_
    refine J_ret ?_
    refine N_then_ret ?_
    exact N_ret1 rfl (rv_tmp rfl) (fun w hh => ⟨(), rfl, hh.sel [] rfl⟩)
  · refine J_skip ?_
    refine N_then ?_
    refine J_seq ?_
    refine J_seq ?_
    refine J_region ?_
    refine JL_q (wants_none rfl) rfl (ex_assign rfl) ?_
    refine JL_nil ?_
    refine N_then ?_
    refine J_loop' (S := Int) (G := Unit) (F_laws_r8Same_L1 p0 p1) (fun s2 _ => [(0, v0_), (1, v1_), (5, .int .i64 s2)]) (fun s2 _ => [.rd v0_ p0, .rd v1_ p1]) 0 () ⟨rfl, rfl, rfl, trivial⟩ [1, 0] rfl rfl (fun s2 g3 => ?_) (fun s2 g3 => ?_)
    · unfold F_laws_r8Same_L1
      refine J_seq ?_
      refine J_seq ?_
      refine J_region ?_
      refine JL_q (wants_none rfl) rfl (ex_move rfl) ?_
      refine JL_q (wants_none rfl) rfl (ex_move rfl) ?_
      refine JL_q (wants_none rfl) rfl (ex_len_rd 0 Try.underlying27 rfl rfl) ?_
      refine JL_q (wants_none rfl) rfl (ex_lss rfl rfl) ?_
      refine JL_nil ?_
      refine N_then ?_
      refine J_if rfl (fun h4 => ?_) (fun h4 => ?_)
      · refine J_skip ?_
        refine N_then ?_
        refine J_seq ?_
        refine J_block ?_
        refine J_seq ?_
        refine J_draw [] (by kernel_rfl) ?_
        refine JP_take (i := 0) [0, 1] [] rfl (by kernel_rfl) (by kernel_rfl) (by kernel_rfl) rfl rfl (wants_none rfl) rfl (ex_move rfl) ?_
        refine JP_take (i := 1) [0, 1] [] rfl (by kernel_rfl) (by kernel_rfl) (by kernel_rfl) rfl rfl (wants_none rfl) rfl (ex_move rfl) ?_
        refine JP_bnd fun y5 hy6 => ?_
        refine JP_sq (i := 2) [] rfl (by kernel_rfl) (by kernel_rfl) (by kernel_rfl) rfl (wants_none rfl) rfl (sq_index 0 Try.underlying27 ti_2 rfl rfl rfl hy6) (fun q7 => ?_)
        refine JP_sq (i := 3) [] rfl (by kernel_rfl) (by kernel_rfl) (by kernel_rfl) rfl (wants_none rfl) rfl (sq_load_pt_o 0 (opens_int _) ti_2 rfl rfl) (fun _ => ?_)
        refine JP_take (i := 4) [0, 1, 2] [] rfl (by kernel_rfl) (by kernel_rfl) (by kernel_rfl) rfl rfl (wants_none rfl) rfl (ex_move rfl) ?_
        refine JP_take (i := 5) [0, 1, 2] [] rfl (by kernel_rfl) (by kernel_rfl) (by kernel_rfl) rfl rfl (wants_none rfl) rfl (ex_move rfl) ?_
        refine JP_bnd fun y9 hy10 => ?_
        refine JP_sq (i := 6) [] rfl (by kernel_rfl) (by kernel_rfl) (by kernel_rfl) rfl (wants_none rfl) rfl (sq_index 2 Try.underlying27 ti_2 rfl rfl rfl hy10) (fun q11 => ?_)
        refine JP_sq (i := 7) [] rfl (by kernel_rfl) (by kernel_rfl) (by kernel_rfl) rfl (wants_none rfl) rfl (sq_load_pt_o 0 (opens_int _) ti_2 rfl rfl) (fun _ => ?_)
        refine JP_take (i := 8) [0, 1, 2, 3] [] rfl (by kernel_rfl) (by kernel_rfl) (by kernel_rfl) rfl rfl (wants_none rfl) rfl (ex_neq rfl rfl) ?_
        refine JP_go [] [] rfl rfl rfl (fun _ _ _ => ?_)
        refine JD_done (by kernel_rfl) ?_
        refine N_then ?_
        refine J_if rfl (fun h13 => ?_) (fun h13 => ?_)
        · refine J_seq ?_
          refine J_region ?_
          refine JL_q (wants_none rfl) rfl (ex_assign rfl) ?_
          refine JL_nil ?_
          refine N_then ?_
          refine J_ret ?_
          refine N_block_ret ?_
          refine N_then_ret ?_
          refine N_round_ret ?_
          refine N_then_ret ?_
          exact N_ret1 rfl (rv_tmp rfl) (fun w hh => ⟨(), rfl, hh.sel [] rfl⟩)
        · refine J_skip ?_
          refine N_block ?_
          refine N_then ?_
          refine J_region ?_
          refine JL_q (wants_none rfl) rfl (ex_move rfl) ?_
          refine JL_q (wants_none rfl) rfl (ex_add rfl rfl) ?_
          refine JL_q (wants_none rfl) rfl (ex_assign rfl) ?_
          refine JL_nil ?_
          exact N_next' () ⟨rfl, rfl, rfl, trivial⟩ [2, 3] rfl rfl
      · refine J_exit ?_
        refine N_then_exit ?_
        exact N_break' () ⟨rfl, rfl, rfl, trivial⟩ [0, 1] rfl rfl
    · refine N_then ?_
      refine J_seq ?_
      refine J_region ?_
      refine JL_q (wants_none rfl) rfl (ex_assign rfl) ?_
      refine JL_nil ?_
      refine N_then ?_
      refine J_ret ?_
      exact N_ret1 rfl (rv_tmp rfl) (fun w hh => ⟨(), rfl, hh.sel [] rfl⟩)

set_option maxHeartbeats 40000000 in
theorem c_laws_r8Config (A : Nat → Prop) (w : World) (hA : ∀ k, A k → k < w.heap.size) (v0_ : Value) (p0 : GConfig) (hp0 : Rd A w v0_ p0) (v1_ : Value) (p1 : GConfig) (hp1 : Rd A w v1_ p1) (r : Bool) (hr : F_laws_r8Config p0 p1 = some r) :
    Con Try.prog 9 [v0_, v1_] A w (fun x_ : Unit => .bool r) (fun x_ => []) := by
  obtain ⟨v0_0, v0_1, rfl, hp0_0, hp0_1⟩ := GConfig.open hp0
  obtain ⟨v1_0, v1_1, rfl, hp1_0, hp1_1⟩ := GConfig.open hp1
  refine Con_of (v := fun (r : Bool) (x_ : Unit) => .bool r) (fs := fun r x_ => []) Try.func9 rfl Try.ntmps9 rfl (((((SH.start hA).start_rd rfl hp0_0).start_rd rfl hp0_1).start_rd rfl hp1_0).start_rd rfl hp1_1) rfl ?_ hr
  unfold F_laws_r8Config
  refine J_seq ?_
  refine J_region ?_
  refine JL_st (wants_none rfl) rfl (st_box' rfl (fun w hh => (cv_aggs ⟨cv_int, (hh.cv 3 rfl), (hh.cv 2 rfl), trivial⟩))) (fun b1 => ?_)
  refine JL_st (wants_none rfl) rfl (st_box' rfl (fun w hh => (cv_aggs ⟨cv_int, (hh.cv 2 rfl), (hh.cv 1 rfl), trivial⟩))) (fun b2 => ?_)
  refine JL_q (wants_none rfl) rfl (ex_assign rfl) ?_
  refine JL_nil ?_
  refine N_then ?_
  refine J_seq ?_
  refine J_region ?_
  refine JL_q (wants_none rfl) rfl (ex_fieldAddr fi_29_0 rfl rfl) ?_
  refine JL_q (wants_none rfl) rfl (ex_load_bx 1 ti_2 rfl rfl rfl) ?_
  refine JL_q (wants_none rfl) rfl (ex_fieldAddr fi_29_0 rfl rfl) ?_
  refine JL_q (wants_none rfl) rfl (ex_load_bx 0 ti_2 rfl rfl rfl) ?_
  refine JL_q (wants_none rfl) rfl (ex_eql rfl rfl) ?_
  refine JL_q (wants_none rfl) rfl (ex_move rfl) ?_
  refine JL_cond (fun h3 => ?_) (fun h3 => ?_)
  · refine JL_q (wants_some rfl rfl rfl h3) rfl (ex_fieldAddr fi_29_1 rfl rfl) ?_
    refine JL_q (wants_some rfl rfl rfl h3) rfl (ex_load_bx 1 ti_27 rfl rfl rfl) ?_
    refine JL_q (wants_some rfl rfl rfl h3) rfl (ex_fieldAddr fi_29_1 rfl rfl) ?_
    refine JL_q (wants_some rfl rfl rfl h3) rfl (ex_load_bx 0 ti_27 rfl rfl rfl) ?_
    refine JL_bnd fun r4 hr5 => ?_
    refine JL_call (wants_some rfl rfl rfl h3) rfl Try.call32 rfl (Ca_of0 fun w hh => c_laws_r8Same _ w (fun _ hk => hk.elim) _ _ (hh.rd0 5 rfl) _ _ (hh.rd0 3 rfl) _ hr5) (fun _ => ?_)
    refine JL_q (wants_none rfl) rfl (ex_pick_true rfl h3 rfl) ?_
    refine JL_q (wants_none rfl) rfl (ex_move rfl) ?_
    refine JL_cond (fun h6 => ?_) (fun h6 => ?_)
    · refine JL_q (wants_some rfl rfl rfl h6) rfl (ex_fieldAddr fi_29_2 rfl rfl) ?_
      refine JL_q (wants_some rfl rfl rfl h6) rfl (ex_load_bx 1 ti_27 rfl rfl rfl) ?_
      refine JL_q (wants_some rfl rfl rfl h6) rfl (ex_fieldAddr fi_29_2 rfl rfl) ?_
      refine JL_q (wants_some rfl rfl rfl h6) rfl (ex_load_bx 0 ti_27 rfl rfl rfl) ?_
      refine JL_bnd fun r7 hr8 => ?_
      refine JL_call (wants_some rfl rfl rfl h6) rfl Try.call32 rfl (Ca_of0 fun w hh => c_laws_r8Same _ w (fun _ hk => hk.elim) _ _ (hh.rd0 4 rfl) _ _ (hh.rd0 2 rfl) _ hr8) (fun _ => ?_)
      refine JL_q (wants_none rfl) rfl (ex_pick_true rfl h6 rfl) ?_
      refine JL_q (wants_none rfl) rfl (ex_assign rfl) ?_
      refine JL_nil ?_
      refine N_then ?_
      refine J_ret ?_
      exact N_ret1 rfl (rv_tmp rfl) (fun w hh => ⟨(), rfl, hh.sel [] rfl⟩)
    · refine JL_passed rfl rfl rfl h6 ?_
      refine JL_passed rfl rfl rfl h6 ?_
      refine JL_passed rfl rfl rfl h6 ?_
      refine JL_passed rfl rfl rfl h6 ?_
      refine JL_passed rfl rfl rfl h6 ?_
      refine JL_q (wants_none rfl) rfl (ex_pick_false rfl h6 rfl) ?_
      refine JL_q (wants_none rfl) rfl (ex_assign rfl) ?_
      refine JL_nil ?_
      refine N_then ?_
      refine J_ret ?_
      exact N_ret1 rfl (rv_tmp rfl) (fun w hh => ⟨(), rfl, hh.sel [] rfl⟩)
  · refine JL_passed rfl rfl rfl h3 ?_
    refine JL_passed rfl rfl rfl h3 ?_
    refine JL_passed rfl rfl rfl h3 ?_
    refine JL_passed rfl rfl rfl h3 ?_
    refine JL_passed rfl rfl rfl h3 ?_
    refine JL_q (wants_none rfl) rfl (ex_pick_false rfl h3 rfl) ?_
    refine JL_q (wants_none rfl) rfl (ex_move rfl) ?_
    refine JL_passed rfl rfl rfl rfl ?_
    refine JL_passed rfl rfl rfl rfl ?_
    refine JL_passed rfl rfl rfl rfl ?_
    refine JL_passed rfl rfl rfl rfl ?_
    refine JL_passed rfl rfl rfl rfl ?_
    refine JL_q (wants_none rfl) rfl (ex_pick_false rfl rfl rfl) ?_
    refine JL_q (wants_none rfl) rfl (ex_assign rfl) ?_
    refine JL_nil ?_
    refine N_then ?_
    refine J_ret ?_
    exact N_ret1 rfl (rv_tmp rfl) (fun w hh => ⟨(), rfl, hh.sel [] rfl⟩)

end Go.Proofs.Ytabpcmbohmodnaa
