/-
  Each function of the program computes what its plain function says: printed by program. No condition.
-/
import Derived.Test.YtafjflnnkdbmdaaFn
import Derived.Test.YtafjflnnkdbmdaaInf
import Derived.Test.YtafjflnnkdbmdaaCon1
namespace Go.Proofs.Ytafjflnnkdbmdaa
open Go Go.Tc Go.Fn
set_option linter.unusedVariables false

set_option maxHeartbeats 40000000 in
theorem c_spec_l00Own (A : Nat → Prop) (w : World) (hA : ∀ k, A k → k < w.heap.size) (v0_ : Value) (p0 : (List Int)) (hp0 : Rd A w v0_ p0) (r : (List Int)) (hr : F_spec_l00Own p0 = some r) :
    Con Try.prog 66 [v0_] A w (fun x_ : Value => x_) (fun x_ => [.ow 2 x_ r]) := by
  refine Con_of (v := fun (r : (List Int)) (x_ : Value) => x_) (fs := fun r x_ => [.ow 2 x_ r]) Try.func66 rfl Try.ntmps66 rfl ((SH.start hA).start_rd rfl hp0) rfl ?_ hr
  unfold F_spec_l00Own
  refine J_seq ?_
  refine J_region ?_
  refine JL_q (wants_none rfl) rfl (ex_assign rfl) ?_
  refine JL_nil ?_
  refine N_then ?_
  refine J_seq ?_
  refine J_region ?_
  refine JL_st (wants_none rfl) rfl (st_buildSlice (vs := []) ([] : List Int) Try.underlying64 ti_2 zi_2 rfl rfl rfl (fun w hh => trivial)) (fun b1 => ?_)
  refine JL_q (wants_none rfl) rfl (ex_move rfl) ?_
  refine JL_bnd fun z2 hz3 => ?_
  refine JL_st (wants_none rfl) rfl (st_append 0 Try.underlying64 ti_2 zi_2 rfl bi_2 rfl rfl rfl rfl (fun w hh => hh.src_rd 1 rfl) hz3) (fun v4 => ?_)
  refine JL_q (wants_none rfl) rfl (ex_assign rfl) ?_
  refine JL_nil ?_
  refine N_then ?_
  refine J_ret ?_
  exact N_ret1 rfl (rv_tmp rfl) (fun w hh => ⟨v4, rfl, hh.sel [0] rfl⟩)

set_option maxHeartbeats 40000000 in
theorem c_spec_l00Has (A : Nat → Prop) (w : World) (hA : ∀ k, A k → k < w.heap.size) (v0_ : Value) (p0 : (List Int)) (hp0 : Rd A w v0_ p0) (p1 : Int) (r : Bool) (hr : F_spec_l00Has p0 p1 = some r) :
    Con Try.prog 67 [v0_, .int .i64 p1] A w (fun x_ : Unit => .bool r) (fun x_ => []) := by
  refine Con_of (v := fun (r : Bool) (x_ : Unit) => .bool r) (fs := fun r x_ => []) Try.func67 rfl Try.ntmps67 rfl ((SH.start hA).start_rd rfl hp0) rfl ?_ hr
  unfold F_spec_l00Has
  refine J_seq ?_
  refine J_region ?_
  refine JL_q (wants_none rfl) rfl (ex_assign rfl) ?_
  refine JL_nil ?_
  refine N_then ?_
  refine J_seq ?_
  refine J_seq ?_
  refine J_region ?_
  refine JL_q (wants_none rfl) rfl (ex_assign rfl) ?_
  refine JL_nil ?_
  refine N_then ?_
  refine J_loop' (S := Int) (G := Unit) (F_spec_l00Has_L1 p0 p1) (fun s1 _ => [(0, v0_), (1, .int .i64 p1), (5, .int .i64 s1)]) (fun s1 _ => [.rd v0_ p0]) 0 () ⟨rfl, rfl, rfl, trivial⟩ [0] rfl rfl (fun s1 g2 => ?_) (fun s1 g2 => ?_)
  · unfold F_spec_l00Has_L1
    refine J_seq ?_
    refine J_seq ?_
    refine J_region ?_
    refine JL_q (wants_none rfl) rfl (ex_move rfl) ?_
    refine JL_q (wants_none rfl) rfl (ex_move rfl) ?_
    refine JL_q (wants_none rfl) rfl (ex_len_rd 0 Try.underlying64 rfl rfl) ?_
    refine JL_q (wants_none rfl) rfl (ex_lss rfl rfl) ?_
    refine JL_nil ?_
    refine N_then ?_
    refine J_if rfl (fun h3 => ?_) (fun h3 => ?_)
    · refine J_skip ?_
      refine N_then ?_
      refine J_seq ?_
      refine J_block ?_
      refine J_seq ?_
      refine J_region ?_
      refine JL_q (wants_none rfl) rfl (ex_move rfl) ?_
      refine JL_q (wants_none rfl) rfl (ex_move rfl) ?_
      refine JL_bnd fun y4 hy5 => ?_
      refine JL_st (wants_none rfl) rfl (st_index 0 Try.underlying64 ti_2 rfl rfl rfl hy5) (fun q6 => ?_)
      refine JL_st (wants_none rfl) rfl (st_load_pt_o 0 (opens_int _) ti_2 rfl rfl) (fun _ => ?_)
      refine JL_q (wants_none rfl) rfl (ex_move rfl) ?_
      refine JL_q (wants_none rfl) rfl (ex_eql rfl rfl) ?_
      refine JL_nil ?_
      refine N_then ?_
      refine J_if rfl (fun h8 => ?_) (fun h8 => ?_)
      · refine J_seq ?_
        refine J_region ?_
        refine JL_q (wants_none rfl) rfl (ex_assign rfl) ?_
        refine JL_nil ?_
        refine N_then ?_
        refine J_ret ?_
        refine N_block_ret ?_
        refine N_then_ret ?_
        refine N_round_ret ?_
        refine N_then_ret ?_
        exact N_ret1 rfl (rv_tmp rfl) (fun w hh => ⟨(), rfl, hh.sel [] rfl⟩)
      · refine J_skip ?_
        refine N_block ?_
        refine N_then ?_
        refine J_region ?_
        refine JL_q (wants_none rfl) rfl (ex_move rfl) ?_
        refine JL_q (wants_none rfl) rfl (ex_add rfl rfl) ?_
        refine JL_q (wants_none rfl) rfl (ex_assign rfl) ?_
        refine JL_nil ?_
        exact N_next' () ⟨rfl, rfl, rfl, trivial⟩ [1] rfl rfl
    · refine J_exit ?_
      refine N_then_exit ?_
      exact N_break' () ⟨rfl, rfl, rfl, trivial⟩ [0] rfl rfl
  · refine N_then ?_
    refine J_seq ?_
    refine J_region ?_
    refine JL_q (wants_none rfl) rfl (ex_assign rfl) ?_
    refine JL_nil ?_
    refine N_then ?_
    refine J_ret ?_
    exact N_ret1 rfl (rv_tmp rfl) (fun w hh => ⟨(), rfl, hh.sel [] rfl⟩)

set_option maxHeartbeats 40000000 in
theorem c_spec_l00Same (A : Nat → Prop) (w : World) (hA : ∀ k, A k → k < w.heap.size) (v0_ : Value) (p0 : (List Int)) (hp0 : Rd A w v0_ p0) (v1_ : Value) (p1 : (List Int)) (hp1 : Rd A w v1_ p1) (r : Bool) (hr : F_spec_l00Same p0 p1 = some r) :
    Con Try.prog 63 [v0_, v1_] A w (fun x_ : Unit => .bool r) (fun x_ => []) := by
  refine Con_of (v := fun (r : Bool) (x_ : Unit) => .bool r) (fs := fun r x_ => []) Try.func63 rfl Try.ntmps63 rfl (((SH.start hA).start_rd rfl hp0).start_rd rfl hp1) rfl ?_ hr
  unfold F_spec_l00Same
  refine J_seq ?_
  refine J_region ?_
  refine JL_q (wants_none rfl) rfl (ex_assign rfl) ?_
  refine JL_nil ?_
  refine N_then ?_
  refine J_seq ?_
  refine J_seq ?_
  refine J_region ?_
  refine JL_q (wants_none rfl) rfl (ex_move rfl) ?_
  refine JL_q (wants_none rfl) rfl (ex_len_rd 1 Try.underlying64 rfl rfl) ?_
  refine JL_q (wants_none rfl) rfl (ex_move rfl) ?_
  refine JL_q (wants_none rfl) rfl (ex_len_rd 0 Try.underlying64 rfl rfl) ?_
  refine JL_q (wants_none rfl) rfl (ex_neq rfl rfl) ?_
  refine JL_nil ?_
  refine N_then ?_
  refine J_if rfl (fun h1 => ?_) (fun h1 => ?_)
  · refine J_seq ?_
    refine J_region ?_
    refine JL_q (wants_none rfl) rfl (ex_assign rfl) ?_
    refine JL_nil ?_
    refine N_then ?_
    refine J_ret ?_
    refine N_then_ret ?_
    exact N_ret1 rfl (rv_tmp rfl) (fun w hh => ⟨(), rfl, hh.sel [] rfl⟩)
  · refine J_skip ?_
    refine N_then ?_
    refine J_seq ?_
    refine J_seq ?_
    refine J_region ?_
    refine JL_q (wants_none rfl) rfl (ex_assign rfl) ?_
    refine JL_nil ?_
    refine N_then ?_
    refine J_loop' (S := Int) (G := Unit) (F_spec_l00Same_L1 p0 p1) (fun s2 _ => [(0, v0_), (1, v1_), (5, .int .i64 s2)]) (fun s2 _ => [.rd v0_ p0, .rd v1_ p1]) 0 () ⟨rfl, rfl, rfl, trivial⟩ [1, 0] rfl rfl (fun s2 g3 => ?_) (fun s2 g3 => ?_)
    · unfold F_spec_l00Same_L1
      refine J_seq ?_
      refine J_seq ?_
      refine J_region ?_
      refine JL_q (wants_none rfl) rfl (ex_move rfl) ?_
      refine JL_q (wants_none rfl) rfl (ex_move rfl) ?_
      refine JL_q (wants_none rfl) rfl (ex_len_rd 0 Try.underlying64 rfl rfl) ?_
      refine JL_q (wants_none rfl) rfl (ex_lss rfl rfl) ?_
      refine JL_nil ?_
      refine N_then ?_
      refine J_if rfl (fun h4 => ?_) (fun h4 => ?_)
      · refine J_skip ?_
        refine N_then ?_
        refine J_seq ?_
        refine J_block ?_
        refine J_seq ?_
        refine J_draw [] (by kernel_rfl) ?_
        refine JP_take (i := 0) [0, 1] [] rfl (by kernel_rfl) (by kernel_rfl) (by kernel_rfl) rfl rfl (wants_none rfl) rfl (ex_move rfl) ?_
        refine JP_take (i := 1) [0, 1] [] rfl (by kernel_rfl) (by kernel_rfl) (by kernel_rfl) rfl rfl (wants_none rfl) rfl (ex_move rfl) ?_
        refine JP_bnd fun y5 hy6 => ?_
        refine JP_sq (i := 2) [] rfl (by kernel_rfl) (by kernel_rfl) (by kernel_rfl) rfl (wants_none rfl) rfl (sq_index 0 Try.underlying64 ti_2 rfl rfl rfl hy6) (fun q7 => ?_)
        refine JP_sq (i := 3) [] rfl (by kernel_rfl) (by kernel_rfl) (by kernel_rfl) rfl (wants_none rfl) rfl (sq_load_pt_o 0 (opens_int _) ti_2 rfl rfl) (fun _ => ?_)
        refine JP_take (i := 4) [0, 1, 2] [] rfl (by kernel_rfl) (by kernel_rfl) (by kernel_rfl) rfl rfl (wants_none rfl) rfl (ex_move rfl) ?_
        refine JP_take (i := 5) [0, 1, 2] [] rfl (by kernel_rfl) (by kernel_rfl) (by kernel_rfl) rfl rfl (wants_none rfl) rfl (ex_move rfl) ?_
        refine JP_bnd fun y9 hy10 => ?_
        refine JP_sq (i := 6) [] rfl (by kernel_rfl) (by kernel_rfl) (by kernel_rfl) rfl (wants_none rfl) rfl (sq_index 2 Try.underlying64 ti_2 rfl rfl rfl hy10) (fun q11 => ?_)
        refine JP_sq (i := 7) [] rfl (by kernel_rfl) (by kernel_rfl) (by kernel_rfl) rfl (wants_none rfl) rfl (sq_load_pt_o 0 (opens_int _) ti_2 rfl rfl) (fun _ => ?_)
        refine JP_take (i := 8) [0, 1, 2, 3] [] rfl (by kernel_rfl) (by kernel_rfl) (by kernel_rfl) rfl rfl (wants_none rfl) rfl (ex_neq rfl rfl) ?_
        refine JP_go [] [] rfl rfl rfl (fun _ _ _ => ?_)
        refine JD_done (by kernel_rfl) ?_
        refine N_then ?_
        refine J_if rfl (fun h13 => ?_) (fun h13 => ?_)
        · refine J_seq ?_
          refine J_region ?_
          refine JL_q (wants_none rfl) rfl (ex_assign rfl) ?_
          refine JL_nil ?_
          refine N_then ?_
          refine J_ret ?_
          refine N_block_ret ?_
          refine N_then_ret ?_
          refine N_round_ret ?_
          refine N_then_ret ?_
          exact N_ret1 rfl (rv_tmp rfl) (fun w hh => ⟨(), rfl, hh.sel [] rfl⟩)
        · refine J_skip ?_
          refine N_block ?_
          refine N_then ?_
          refine J_region ?_
          refine JL_q (wants_none rfl) rfl (ex_move rfl) ?_
          refine JL_q (wants_none rfl) rfl (ex_add rfl rfl) ?_
          refine JL_q (wants_none rfl) rfl (ex_assign rfl) ?_
          refine JL_nil ?_
          exact N_next' () ⟨rfl, rfl, rfl, trivial⟩ [2, 3] rfl rfl
      · refine J_exit ?_
        refine N_then_exit ?_
        exact N_break' () ⟨rfl, rfl, rfl, trivial⟩ [0, 1] rfl rfl
    · refine N_then ?_
      refine J_seq ?_
      refine J_region ?_
      refine JL_q (wants_none rfl) rfl (ex_assign rfl) ?_
      refine JL_nil ?_
      refine N_then ?_
      refine J_ret ?_
      exact N_ret1 rfl (rv_tmp rfl) (fun w hh => ⟨(), rfl, hh.sel [] rfl⟩)

set_option maxHeartbeats 40000000 in
theorem c_spec_l06RuleOf (A : Nat → Prop) (w : World) (hA : ∀ k, A k → k < w.heap.size) (v0_ : Value) (p0 : GMulti) (hp0 : RdA A w.heap.size w v0_ p0) (p1 : Int) (v2_ : Value) (p2 : (List Int)) (hp2 : Rd A w v2_ p2) (r : Int) (hr : F_spec_l06RuleOf p0 p1 p2 = some r) :
    Con Try.prog 68 [v0_, .int .i64 p1, v2_] A w (fun x_ : Unit => .int .i64 r) (fun x_ => []) := by
  refine Con_of (v := fun (r : Int) (x_ : Unit) => .int .i64 r) (fs := fun r x_ => []) Try.func68 rfl Try.ntmps68 rfl (((SH.start hA).start_pa' rfl hp0).start_rd rfl hp2) rfl ?_ hr
  unfold F_spec_l06RuleOf
  refine J_seq ?_
  refine J_region ?_
  refine JL_q (wants_none rfl) rfl (ex_assign rfl) ?_
  refine JL_nil ?_
  refine N_then ?_
  refine J_seq ?_
  refine J_seq ?_
  refine J_region ?_
  refine JL_q (wants_none rfl) rfl (ex_assign rfl) ?_
  refine JL_nil ?_
  refine N_then ?_
  refine J_loop' (S := Int) (G := Unit) (F_spec_l06RuleOf_L1 p0 p1 p2) (fun s1 _ => [(0, v0_), (1, .int .i64 p1), (2, v2_), (7, .int .i64 s1)]) (fun s1 _ => [.pa v0_ p0, .rd v2_ p2]) 0 () ⟨rfl, rfl, rfl, rfl, trivial⟩ [1, 0] rfl rfl (fun s1 g2 => ?_) (fun s1 g2 => ?_)
  · unfold F_spec_l06RuleOf_L1
    refine J_seq ?_
    refine J_seq ?_
    refine J_region ?_
    refine JL_q (wants_none rfl) rfl (ex_move rfl) ?_
    refine JL_q (wants_none rfl) rfl (ex_move rfl) ?_
    refine JL_q (wants_none rfl) rfl (ex_nilCheck_pa 0 rfl rfl) ?_
    refine JL_st (wants_none rfl) rfl (st_field_pa 0 (GMulti.at_Rules _) fi_33_3 rfl rfl rfl) (fun q3 => ?_)
    refine JL_st (wants_none rfl) rfl (st_load_pa_o 0 (opens_sl _) ti_31 rfl rfl) (fun v4 => ?_)
    refine JL_q (wants_none rfl) rfl (ex_len_rd 0 Try.underlying31 rfl rfl) ?_
    refine JL_q (wants_none rfl) rfl (ex_lss rfl rfl) ?_
    refine JL_nil ?_
    refine N_then ?_
    refine J_if rfl (fun h5 => ?_) (fun h5 => ?_)
    · refine J_skip ?_
      refine N_then ?_
      refine J_seq ?_
      refine J_block ?_
      refine J_seq ?_
      refine J_region ?_
      refine JL_q (wants_none rfl) rfl (ex_move rfl) ?_
      refine JL_q (wants_none rfl) rfl (ex_nilCheck_pa 2 rfl rfl) ?_
      refine JL_st (wants_none rfl) rfl (st_field_pa 2 (GMulti.at_Rules _) fi_33_3 rfl rfl rfl) (fun q6 => ?_)
      refine JL_st (wants_none rfl) rfl (st_load_pa_o 0 (opens_sl _) ti_31 rfl rfl) (fun v7 => ?_)
      refine JL_q (wants_none rfl) rfl (ex_move rfl) ?_
      refine JL_bnd fun y8 hy9 => ?_
      refine JL_st (wants_none rfl) rfl (st_index 0 Try.underlying31 ti_69 rfl rfl rfl hy9) (fun q10 => ?_)
      refine JL_st (wants_none rfl) rfl (st_field_pt 0 (GMultiRule.at_State _) fi_69_0 rfl rfl rfl) (fun q11 => ?_)
      refine JL_st (wants_none rfl) rfl (st_load_pt_o 0 (opens_int _) ti_2 rfl rfl) (fun _ => ?_)
      refine JL_q (wants_none rfl) rfl (ex_move rfl) ?_
      refine JL_q (wants_none rfl) rfl (ex_eql rfl rfl) ?_
      refine JL_q (wants_none rfl) rfl (ex_move rfl) ?_
      refine JL_cond (fun h13 => ?_) (fun h13 => ?_)
      · refine JL_q (wants_some rfl rfl rfl h13) rfl (ex_move rfl) ?_
        refine JL_q (wants_some rfl rfl rfl h13) rfl (ex_nilCheck_pa 6 rfl rfl) ?_
        refine JL_st (wants_some rfl rfl rfl h13) rfl (st_field_pa 6 (GMulti.at_Rules _) fi_33_3 rfl rfl rfl) (fun q14 => ?_)
        refine JL_st (wants_some rfl rfl rfl h13) rfl (st_load_pa_o 0 (opens_sl _) ti_31 rfl rfl) (fun v15 => ?_)
        refine JL_q (wants_some rfl rfl rfl h13) rfl (ex_move rfl) ?_
        refine JL_bnd fun y16 hy17 => ?_
        refine JL_st (wants_some rfl rfl rfl h13) rfl (st_index 0 Try.underlying31 ti_69 rfl rfl rfl hy17) (fun q18 => ?_)
        refine JL_st (wants_some rfl rfl rfl h13) rfl (st_field_pt 0 (GMultiRule.at_Read _) fi_69_1 rfl rfl rfl) (fun q19 => ?_)
        refine JL_st (wants_some rfl rfl rfl h13) rfl (st_load_pt_o 0 (opens_sl _) ti_64 rfl rfl) (fun v20 => ?_)
        refine JL_q (wants_some rfl rfl rfl h13) rfl (ex_move rfl) ?_
        refine JL_bnd fun r21 hr22 => ?_
        refine JL_call (wants_some rfl rfl rfl h13) rfl Try.call63 rfl (Ca_of0 fun w hh => c_spec_l00Same _ w (fun _ hk => hk.elim) _ _ (hh.rd0 0 rfl) _ _ (hh.rd0 12 rfl) _ hr22) (fun _ => ?_)
        refine JL_q (wants_none rfl) rfl (ex_pick_true rfl h13 rfl) ?_
        refine JL_nil ?_
        refine N_then ?_
        refine J_if rfl (fun h23 => ?_) (fun h23 => ?_)
        · refine J_seq ?_
          refine J_region ?_
          refine JL_q (wants_none rfl) rfl (ex_move rfl) ?_
          refine JL_q (wants_none rfl) rfl (ex_assign rfl) ?_
          refine JL_nil ?_
          refine N_then ?_
          refine J_ret ?_
          refine N_block_ret ?_
          refine N_then_ret ?_
          refine N_round_ret ?_
          refine N_then_ret ?_
          exact N_ret1 rfl (rv_tmp rfl) (fun w hh => ⟨(), rfl, hh.sel [] rfl⟩)
        · refine J_skip ?_
          refine N_block ?_
          refine N_then ?_
          refine J_region ?_
          refine JL_q (wants_none rfl) rfl (ex_move rfl) ?_
          refine JL_q (wants_none rfl) rfl (ex_add rfl rfl) ?_
          refine JL_q (wants_none rfl) rfl (ex_assign rfl) ?_
          refine JL_nil ?_
          exact N_next' () ⟨rfl, rfl, rfl, rfl, trivial⟩ [11, 12] rfl rfl
      · refine JL_passed rfl rfl rfl h13 ?_
        refine JL_passed rfl rfl rfl h13 ?_
        refine JL_passed rfl rfl rfl h13 ?_
        refine JL_passed rfl rfl rfl h13 ?_
        refine JL_passed rfl rfl rfl h13 ?_
        refine JL_passed rfl rfl rfl h13 ?_
        refine JL_passed rfl rfl rfl h13 ?_
        refine JL_passed rfl rfl rfl h13 ?_
        refine JL_passed rfl rfl rfl h13 ?_
        refine JL_passed rfl rfl rfl h13 ?_
        refine JL_q (wants_none rfl) rfl (ex_pick_false rfl h13 rfl) ?_
        refine JL_nil ?_
        refine N_then ?_
        refine J_if_false rfl rfl ?_
        refine J_skip ?_
        refine N_block ?_
        refine N_then ?_
        refine J_region ?_
        refine JL_q (wants_none rfl) rfl (ex_move rfl) ?_
        refine JL_q (wants_none rfl) rfl (ex_add rfl rfl) ?_
        refine JL_q (wants_none rfl) rfl (ex_assign rfl) ?_
        refine JL_nil ?_
        exact N_next' () ⟨rfl, rfl, rfl, rfl, trivial⟩ [6, 7] rfl rfl
    · refine J_exit ?_
      refine N_then_exit ?_
      exact N_break' () ⟨rfl, rfl, rfl, rfl, trivial⟩ [2, 3] rfl rfl
  · refine N_then ?_
    refine J_seq ?_
    refine J_region ?_
    refine JL_q (wants_none rfl) rfl (ex_assign rfl) ?_
    refine JL_nil ?_
    refine N_then ?_
    refine J_ret ?_
    exact N_ret1 rfl (rv_tmp rfl) (fun w hh => ⟨(), rfl, hh.sel [] rfl⟩)

set_option maxHeartbeats 40000000 in
theorem c_spec_l13Before (A : Nat → Prop) (w : World) (hA : ∀ k, A k → k < w.heap.size) (v0_ : Value) (p0 : GMulti) (hp0 : RdA A w.heap.size w v0_ p0) (p1 : Int) (r : Int) (hr : F_spec_l13Before p0 p1 = some r) :
    Con Try.prog 71 [v0_, .int .i64 p1] A w (fun x_ : Unit => .int .i64 r) (fun x_ => []) := by
  refine Con_of (v := fun (r : Int) (x_ : Unit) => .int .i64 r) (fs := fun r x_ => []) Try.func71 rfl Try.ntmps71 rfl ((SH.start hA).start_pa' rfl hp0) rfl ?_ hr
  unfold F_spec_l13Before
  refine J_seq ?_
  refine J_region ?_
  refine JL_q (wants_none rfl) rfl (ex_assign rfl) ?_
  refine JL_nil ?_
  refine N_then ?_
  refine J_seq ?_
  refine J_draw [] (by kernel_rfl) ?_
  refine JP_take (i := 0) [0] [] rfl (by kernel_rfl) (by kernel_rfl) (by kernel_rfl) rfl rfl (wants_none rfl) rfl (ex_move rfl) ?_
  refine JP_take (i := 1) [0] [] rfl (by kernel_rfl) (by kernel_rfl) (by kernel_rfl) rfl rfl (wants_none rfl) rfl (ex_move rfl) ?_
  refine JP_take (i := 2) [0] [] rfl (by kernel_rfl) (by kernel_rfl) (by kernel_rfl) rfl rfl (wants_none rfl) rfl (ex_nilCheck_pa 0 rfl rfl) ?_
  refine JP_sq (i := 3) [] rfl (by kernel_rfl) (by kernel_rfl) (by kernel_rfl) rfl (wants_none rfl) rfl (sq_field_pa 0 (GMulti.at_Tapes _) fi_33_0 rfl rfl rfl) (fun q1 => ?_)
  refine JP_sq (i := 4) [] rfl (by kernel_rfl) (by kernel_rfl) (by kernel_rfl) rfl (wants_none rfl) rfl (sq_load_pa_o 0 (opens_int _) ti_2 rfl rfl) (fun _ => ?_)
  refine JP_take (i := 5) [0, 1] [] rfl (by kernel_rfl) (by kernel_rfl) (by kernel_rfl) rfl rfl (wants_none rfl) rfl (ex_add rfl rfl) ?_
  refine JP_take (i := 6) [0, 1] [] rfl (by kernel_rfl) (by kernel_rfl) (by kernel_rfl) rfl rfl (wants_none rfl) rfl (ex_sub rfl rfl) ?_
  refine JP_take (i := 7) [0, 1] [] rfl (by kernel_rfl) (by kernel_rfl) (by kernel_rfl) rfl rfl (wants_none rfl) rfl (ex_move rfl) ?_
  refine JP_take (i := 8) [0, 1] [] rfl (by kernel_rfl) (by kernel_rfl) (by kernel_rfl) rfl rfl (wants_none rfl) rfl (ex_nilCheck_pa 1 rfl rfl) ?_
  refine JP_sq (i := 9) [] rfl (by kernel_rfl) (by kernel_rfl) (by kernel_rfl) rfl (wants_none rfl) rfl (sq_field_pa 1 (GMulti.at_Tapes _) fi_33_0 rfl rfl rfl) (fun q3 => ?_)
  refine JP_sq (i := 10) [] rfl (by kernel_rfl) (by kernel_rfl) (by kernel_rfl) rfl (wants_none rfl) rfl (sq_load_pa_o 0 (opens_int _) ti_2 rfl rfl) (fun _ => ?_)
  refine JP_bnd fun u5 hu6 => ?_
  refine JP_take (i := 11) [0, 1, 2] [] rfl (by kernel_rfl) (by kernel_rfl) (by kernel_rfl) rfl rfl (wants_none rfl) rfl (ex_rem rfl rfl (nz_ne hu6)) ?_
  refine JP_take (i := 12) [0, 1, 2] [] rfl (by kernel_rfl) (by kernel_rfl) (by kernel_rfl) rfl rfl (wants_none rfl) rfl (ex_assign rfl) ?_
  refine JP_go [] [] rfl rfl rfl (fun _ _ _ => ?_)
  refine JD_done (by kernel_rfl) ?_
  refine N_then ?_
  refine J_ret ?_
  exact N_ret1 rfl (rv_tmp rfl) (fun w hh => ⟨(), rfl, hh.sel [] rfl⟩)

set_option maxHeartbeats 40000000 in
theorem c_spec_l13After (A : Nat → Prop) (w : World) (hA : ∀ k, A k → k < w.heap.size) (v0_ : Value) (p0 : GMulti) (hp0 : RdA A w.heap.size w v0_ p0) (p1 : Int) (p2 : Int) (p3 : Int) (r : (List Int)) (hr : F_spec_l13After p0 p1 p2 p3 = some r) :
    Con Try.prog 70 [v0_, .int .i64 p1, .int .i64 p2, .int .i64 p3] A w (fun x_ : Value => x_) (fun x_ => [.ow 2 x_ r]) := by
  refine Con_of (v := fun (r : (List Int)) (x_ : Value) => x_) (fs := fun r x_ => [.ow 2 x_ r]) Try.func70 rfl Try.ntmps70 rfl ((SH.start hA).start_pa' rfl hp0) rfl ?_ hr
  unfold F_spec_l13After
  refine J_seq ?_
  refine J_region ?_
  refine JL_q (wants_none rfl) rfl (ex_assign rfl) ?_
  refine JL_nil ?_
  refine N_then ?_
  refine J_seq ?_
  refine J_seq ?_
  refine J_region ?_
  refine JL_q (wants_none rfl) rfl (ex_move rfl) ?_
  refine JL_q (wants_none rfl) rfl (ex_move rfl) ?_
  refine JL_q (wants_none rfl) rfl (ex_nilCheck_pa 0 rfl rfl) ?_
  refine JL_st (wants_none rfl) rfl (st_field_pa 0 (GMulti.at_Tapes _) fi_33_0 rfl rfl rfl) (fun q1 => ?_)
  refine JL_st (wants_none rfl) rfl (st_load_pa_o 0 (opens_int _) ti_2 rfl rfl) (fun _ => ?_)
  refine JL_bnd fun u3 hu4 => ?_
  refine JL_q (wants_none rfl) rfl (ex_shl rfl rfl (nneg_le hu4)) ?_
  refine JL_q (wants_none rfl) rfl (ex_sub rfl rfl) ?_
  refine JL_q (wants_none rfl) rfl (ex_eql rfl rfl) ?_
  refine JL_nil ?_
  refine N_then ?_
  refine J_if rfl (fun h5 => ?_) (fun h5 => ?_)
  · refine J_seq ?_
    refine J_draw [] (by kernel_rfl) ?_
    refine JP_take (i := 0) [0, 1] [] rfl (by kernel_rfl) (by kernel_rfl) (by kernel_rfl) rfl rfl (wants_none rfl) rfl (ex_move rfl) ?_
    refine JP_take (i := 1) [0, 1] [] rfl (by kernel_rfl) (by kernel_rfl) (by kernel_rfl) rfl rfl (wants_none rfl) rfl (ex_nilCheck_pa 1 rfl rfl) ?_
    refine JP_sq (i := 2) [] rfl (by kernel_rfl) (by kernel_rfl) (by kernel_rfl) rfl (wants_none rfl) rfl (sq_field_pa 1 (GMulti.at_Rules _) fi_33_3 rfl rfl rfl) (fun q6 => ?_)
    refine JP_sq (i := 3) [] rfl (by kernel_rfl) (by kernel_rfl) (by kernel_rfl) rfl (wants_none rfl) rfl (sq_load_pa_o 0 (opens_sl _) ti_31 rfl rfl) (fun v7 => ?_)
    refine JP_take (i := 4) [0, 1, 2, 3] [] rfl (by kernel_rfl) (by kernel_rfl) (by kernel_rfl) rfl rfl (wants_none rfl) rfl (ex_move rfl) ?_
    refine JP_bnd fun y8 hy9 => ?_
    refine JP_sq (i := 5) [] rfl (by kernel_rfl) (by kernel_rfl) (by kernel_rfl) rfl (wants_none rfl) rfl (sq_index 0 Try.underlying31 ti_69 rfl rfl rfl hy9) (fun q10 => ?_)
    refine JP_sq (i := 6) [] rfl (by kernel_rfl) (by kernel_rfl) (by kernel_rfl) rfl (wants_none rfl) rfl (sq_field_pt 0 (GMultiRule.at_Next _) fi_69_4 rfl rfl rfl) (fun q11 => ?_)
    refine JP_sq (i := 7) [] rfl (by kernel_rfl) (by kernel_rfl) (by kernel_rfl) rfl (wants_none rfl) rfl (sq_load_pt_o 0 (opens_int _) ti_2 rfl rfl) (fun _ => ?_)
    refine JP_take (i := 8) [0, 1, 2, 3, 4, 5] [] rfl (by kernel_rfl) (by kernel_rfl) (by kernel_rfl) rfl rfl (wants_none rfl) rfl (ex_move rfl) ?_
    refine JP_take (i := 9) [0, 1, 2, 3, 4, 5] [] rfl (by kernel_rfl) (by kernel_rfl) (by kernel_rfl) rfl rfl (wants_none rfl) rfl (ex_move rfl) ?_
    refine JP_take (i := 10) [0, 1, 2, 3, 4, 5] [] rfl (by kernel_rfl) (by kernel_rfl) (by kernel_rfl) rfl rfl (wants_none rfl) rfl (ex_nilCheck_pa 5 rfl rfl) ?_
    refine JP_sq (i := 11) [] rfl (by kernel_rfl) (by kernel_rfl) (by kernel_rfl) rfl (wants_none rfl) rfl (sq_field_pa 5 (GMulti.at_Tapes _) fi_33_0 rfl rfl rfl) (fun q13 => ?_)
    refine JP_sq (i := 12) [] rfl (by kernel_rfl) (by kernel_rfl) (by kernel_rfl) rfl (wants_none rfl) rfl (sq_load_pa_o 0 (opens_int _) ti_2 rfl rfl) (fun _ => ?_)
    refine JP_take (i := 13) [0, 1, 2, 3, 4, 5, 6] [] rfl (by kernel_rfl) (by kernel_rfl) (by kernel_rfl) rfl rfl (wants_none rfl) rfl (ex_add rfl rfl) ?_
    refine JP_take (i := 14) [0, 1, 2, 3, 4, 5, 6] [] rfl (by kernel_rfl) (by kernel_rfl) (by kernel_rfl) rfl rfl (wants_none rfl) rfl (ex_sub rfl rfl) ?_
    refine JP_go [0, 1, 2, 3, 4, 5, 6] [] rfl rfl rfl (fun w16 h1_17 hp15 => ?_)
    refine JD_one (i := 15) (by kernel_rfl) ?_
    refine JO_st rfl (wants_none rfl) rfl (st_buildSlice (vs := [.int .i64 4, .int .i64 y8.Next, .int .i64 (w64 ((w64 (p2 + p0.Tapes)) - 1))]) ([4, y8.Next, (w64 ((w64 (p2 + p0.Tapes)) - 1))] : List Int) Try.underlying64 ti_2 zi_2 rfl rfl rfl (fun w hh => ⟨(Rd.mk_int _ _ _), (Rd.mk_int _ _ _), (Rd.mk_int _ _ _), trivial⟩)) (fun _ hk => nomatch hk) (fun b18 => ?_)
    refine JD_take (i := 16) hp15 rfl (by kernel_rfl) (by kernel_rfl) (by kernel_rfl) (wants_none rfl) rfl (ex_assign rfl) ?_
    refine JD_done (by kernel_rfl) ?_
    refine N_then ?_
    refine J_ret ?_
    refine N_then_ret ?_
    exact N_ret1 rfl (rv_tmp rfl) (fun w hh => ⟨(.slice (some ⟨b18, 0, none⟩) 3 3), rfl, hh.sel [0] rfl⟩)
  · refine J_skip ?_
    refine N_then ?_
    refine J_seq ?_
    refine J_region ?_
    refine JL_q (wants_none rfl) rfl (ex_move rfl) ?_
    refine JL_q (wants_none rfl) rfl (ex_move rfl) ?_
    refine JL_q (wants_none rfl) rfl (ex_move rfl) ?_
    refine JL_bnd fun r19 hr20 => ?_
    refine JL_call (wants_none rfl) rfl Try.call71 rfl (Ca_of0 fun w hh => c_spec_l13Before _ w (fun _ hk => hk.elim) _ _ (hh.pa0 1 rfl) _ _ hr20) (fun _ => ?_)
    refine JL_q (wants_none rfl) rfl (ex_move rfl) ?_
    refine JL_st (wants_none rfl) rfl (st_buildSlice (vs := [.int .i64 3, .int .i64 p1, .int .i64 r19, .int .i64 p3]) ([3, p1, r19, p3] : List Int) Try.underlying64 ti_2 zi_2 rfl rfl rfl (fun w hh => ⟨(Rd.mk_int _ _ _), (Rd.mk_int _ _ _), (Rd.mk_int _ _ _), (Rd.mk_int _ _ _), trivial⟩)) (fun b21 => ?_)
    refine JL_q (wants_none rfl) rfl (ex_assign rfl) ?_
    refine JL_nil ?_
    refine N_then ?_
    refine J_ret ?_
    exact N_ret1 rfl (rv_tmp rfl) (fun w hh => ⟨(.slice (some ⟨b21, 0, none⟩) 4 4), rfl, hh.sel [0] rfl⟩)

set_option maxHeartbeats 40000000 in
theorem c_spec_l13Put (A : Nat → Prop) (w : World) (hA : ∀ k, A k → k < w.heap.size) (v0_ : Value) (p0 : GMulti) (hp0 : RdA A w.heap.size w v0_ p0) (p1 : Int) (p2 : Int) (p3 : Int) (r : Gl13Move) (hr : F_spec_l13Put p0 p1 p2 p3 = some r) :
    Con Try.prog 69 [v0_, .int .i64 p1, .int .i64 p2, .int .i64 p3] A w (fun x_ : Value × List Nat => .agg #[.bool r.ok, .int .i64 r.write, .int .i64 r.move, x_.1]) (fun x_ => [.tkn x_.1 r.next x_.2]) := by
  refine Con_of (v := fun (r : Gl13Move) (x_ : Value × List Nat) => .agg #[.bool r.ok, .int .i64 r.write, .int .i64 r.move, x_.1]) (fs := fun r x_ => [.tkn x_.1 r.next x_.2]) Try.func69 rfl Try.ntmps69 rfl ((SH.start hA).start_pa' rfl hp0) rfl ?_ hr
  unfold F_spec_l13Put
  refine J_seq ?_
  refine J_region ?_
  refine JL_st (wants_none rfl) rfl (st_alloc zi_96 rfl) (fun b1 => ?_)
  refine JL_nil ?_
  refine N_then ?_
  refine J_seq ?_
  refine J_region ?_
  refine JL_q (wants_none rfl) rfl (ex_move rfl) ?_
  refine JL_q (wants_none rfl) rfl (ex_nilCheck_pa 1 rfl rfl) ?_
  refine JL_st (wants_none rfl) rfl (st_field_pa 1 (GMulti.at_Rules _) fi_33_3 rfl rfl rfl) (fun q2 => ?_)
  refine JL_st (wants_none rfl) rfl (st_load_pa_o 0 (opens_sl _) ti_31 rfl rfl) (fun v3 => ?_)
  refine JL_q (wants_none rfl) rfl (ex_move rfl) ?_
  refine JL_bnd fun y4 hy5 => ?_
  refine JL_st (wants_none rfl) rfl (st_index 0 Try.underlying31 ti_69 rfl rfl rfl hy5) (fun q6 => ?_)
  refine JL_st (wants_none rfl) rfl (st_load_pt_o 0 (GMultiRule.opens _) ti_69 rfl rfl) (fun v7 => ?_)
  refine JL_st (wants_none rfl) rfl (st_alloc zi_69 rfl) (fun b8 => ?_)
  refine JL_sk (wants_none rfl) (sk_store_bx' 0 ti_69 rfl rfl (fun w hh => (cv_aggs ⟨cv_int, (hh.cv 1 rfl), (hh.cv 2 rfl), (hh.cv 3 rfl), cv_int, trivial⟩)) rfl rfl rfl rfl) ?_
  refine JL_nil ?_
  refine N_then ?_
  refine J_seq ?_
  refine J_region ?_
  refine JL_q (wants_none rfl) rfl (ex_move rfl) ?_
  refine JL_q (wants_none rfl) rfl (ex_move rfl) ?_
  refine JL_bnd fun u9 hu10 => ?_
  refine JL_q (wants_none rfl) rfl (ex_shl rfl rfl (nneg_le hu10)) ?_
  refine JL_q (wants_none rfl) rfl (ex_or rfl rfl) ?_
  refine JL_q (wants_none rfl) rfl (ex_assign rfl) ?_
  refine JL_nil ?_
  refine N_then ?_
  refine J_seq ?_
  refine J_seq ?_
  refine J_region ?_
  refine JL_q (wants_none rfl) rfl (ex_fieldAddr fi_69_3 rfl rfl) ?_
  refine JL_q (wants_none rfl) rfl (ex_load_bx 0 ti_64 rfl rfl rfl) ?_
  refine JL_q (wants_none rfl) rfl (ex_move rfl) ?_
  refine JL_bnd fun y11 hy12 => ?_
  refine JL_st (wants_none rfl) rfl (st_index 3 Try.underlying64 ti_2 rfl rfl rfl hy12) (fun q13 => ?_)
  refine JL_st (wants_none rfl) rfl (st_load_pt_o 0 (opens_int _) ti_2 rfl rfl) (fun _ => ?_)
  refine JL_q (wants_none rfl) rfl (ex_eql rfl rfl) ?_
  refine JL_nil ?_
  refine N_then ?_
  refine J_if rfl (fun h15 => ?_) (fun h15 => ?_)
  · refine J_seq ?_
    refine J_draw [8] (by kernel_rfl) ?_
    refine JP_take (i := 0) [0, 1, 2, 3, 4, 5, 6, 7, 9] [8] rfl (by kernel_rfl) (by kernel_rfl) (by kernel_rfl) rfl rfl (wants_none rfl) rfl (ex_fieldAddr fi_69_2 rfl rfl) ?_
    refine JP_take (i := 1) [0, 1, 2, 3, 4, 5, 6, 7, 9] [8] rfl (by kernel_rfl) (by kernel_rfl) (by kernel_rfl) rfl rfl (wants_none rfl) rfl (ex_load_bx 1 ti_64 rfl rfl rfl) ?_
    refine JP_take (i := 2) [0, 1, 2, 3, 4, 5, 6, 7, 9] [8] rfl (by kernel_rfl) (by kernel_rfl) (by kernel_rfl) rfl rfl (wants_none rfl) rfl (ex_move rfl) ?_
    refine JP_bnd fun y16 hy17 => ?_
    refine JP_sq (i := 3) [8] rfl (by kernel_rfl) (by kernel_rfl) (by kernel_rfl) rfl (wants_none rfl) rfl (sq_index 3 Try.underlying64 ti_2 rfl rfl rfl hy17) (fun q18 => ?_)
    refine JP_sq (i := 4) [9] rfl (by kernel_rfl) (by kernel_rfl) (by kernel_rfl) rfl (wants_none rfl) rfl (sq_load_pt_o 0 (opens_int _) ti_2 rfl rfl) (fun _ => ?_)
    refine JP_take (i := 5) [0, 1, 2, 3, 4, 5, 6, 7, 8, 10] [9] rfl (by kernel_rfl) (by kernel_rfl) (by kernel_rfl) rfl rfl (wants_none rfl) rfl (ex_move rfl) ?_
    refine JP_take (i := 6) [0, 1, 2, 3, 4, 5, 6, 7, 8, 10] [9] rfl (by kernel_rfl) (by kernel_rfl) (by kernel_rfl) rfl rfl (wants_none rfl) rfl (ex_nilCheck_pa 9 rfl rfl) ?_
    refine JP_sq (i := 7) [9] rfl (by kernel_rfl) (by kernel_rfl) (by kernel_rfl) rfl (wants_none rfl) rfl (sq_field_pa 10 (GMulti.at_Symbols _) fi_33_1 rfl rfl rfl) (fun q20 => ?_)
    refine JP_sq (i := 8) [10] rfl (by kernel_rfl) (by kernel_rfl) (by kernel_rfl) rfl (wants_none rfl) rfl (sq_load_pa_o 0 (opens_int _) ti_2 rfl rfl) (fun _ => ?_)
    refine JP_take (i := 9) [0, 1, 2, 3, 4, 5, 6, 7, 8, 9, 11] [10] rfl (by kernel_rfl) (by kernel_rfl) (by kernel_rfl) rfl rfl (wants_none rfl) rfl (ex_add rfl rfl) ?_
    refine JP_take (i := 10) [0, 1, 2, 3, 4, 5, 6, 7, 8, 9, 11] [10] rfl (by kernel_rfl) (by kernel_rfl) (by kernel_rfl) rfl rfl (wants_none rfl) rfl (ex_move rfl) ?_
    refine JP_take (i := 11) [0, 1, 2, 3, 4, 5, 6, 7, 8, 9, 11] [10] rfl (by kernel_rfl) (by kernel_rfl) (by kernel_rfl) rfl rfl (wants_none rfl) rfl (ex_move rfl) ?_
    refine JP_take (i := 12) [0, 1, 2, 3, 4, 5, 6, 7, 8, 9, 11] [10] rfl (by kernel_rfl) (by kernel_rfl) (by kernel_rfl) rfl rfl (wants_none rfl) rfl (ex_move rfl) ?_
    refine JP_take (i := 13) [0, 1, 2, 3, 4, 5, 6, 7, 8, 9, 11] [10] rfl (by kernel_rfl) (by kernel_rfl) (by kernel_rfl) rfl rfl (wants_none rfl) rfl (ex_move rfl) ?_
    refine JP_go [0, 1, 2, 3, 4, 5, 6, 7, 8, 9, 11] [10] rfl rfl rfl (fun w23 h1_24 hp22 => ?_)
    refine JD_bnd fun r25 hr26 => ?_
    refine JD_one (i := 14) (by kernel_rfl) ?_
    refine JO_call rfl (wants_none rfl) rfl Try.call70 rfl (Ca_self (fun _ => rfl) fun w hh => c_spec_l13After _ w (fun _ hk => hk.elim) _ _ (hh.pa0 11 rfl) _ _ _ _ hr26) (fun x27 => ?_)
    refine JD_bnd fun r28 hr29 => ?_
    refine JD_one (i := 15) (by kernel_rfl) ?_
    refine JO_call rfl (wants_none rfl) rfl Try.call65 rfl (Ca_self (fun _ => rfl) fun w hh => c_spec_l13Go _ w (fun _ hk => hk.elim) _ _ _ _ (hh.ow0 0 rfl) _ hr29) (fun x30 => ?_)
    refine JD_ctx (fun w hh => hh.tokf 1 rfl rfl) (tokf_owns (i := 1) rfl) ?_
    refine JD_ctx (fun w hh => hh.sub_rd 2 rfl (hh.pr 1 rfl)) (fun _ hb => hb) ?_
    refine JD_ctx (fun w hh => hh.sub_tkn 1 rfl (hh.pr 2 rfl)) (tkn_owns (i := 1) rfl) ?_
    refine JD_one (i := 16) (by kernel_rfl) ?_
    refine JO_sk rfl (wants_none rfl) (sk_store_bx' 14 ti_96 rfl rfl (fun w hh => (cv_aggs ⟨cv_bool, cv_int, cv_int, (hh.cv 0 rfl), trivial⟩)) rfl rfl rfl rfl) (sub_bx 0 rfl) ?_
    refine JD_done (by kernel_rfl) ?_
    refine N_then ?_
    refine J_ret ?_
    refine N_then_ret ?_
    exact N_ret1 rfl (rv_cell 14 rfl rfl ti_96 rfl) (fun w hh => ⟨(x30, ((x27 : Value).ownBlock.toList ++ [])), rfl, hh.sel [1] rfl⟩)
  · refine J_skip ?_
    refine N_then ?_
    refine J_seq ?_
    refine J_draw [8] (by kernel_rfl) ?_
    refine JP_take (i := 0) [0, 1, 2, 3, 4, 5, 6, 7, 9] [8] rfl (by kernel_rfl) (by kernel_rfl) (by kernel_rfl) rfl rfl (wants_none rfl) rfl (ex_fieldAddr fi_69_2 rfl rfl) ?_
    refine JP_take (i := 1) [0, 1, 2, 3, 4, 5, 6, 7, 9] [8] rfl (by kernel_rfl) (by kernel_rfl) (by kernel_rfl) rfl rfl (wants_none rfl) rfl (ex_load_bx 1 ti_64 rfl rfl rfl) ?_
    refine JP_take (i := 2) [0, 1, 2, 3, 4, 5, 6, 7, 9] [8] rfl (by kernel_rfl) (by kernel_rfl) (by kernel_rfl) rfl rfl (wants_none rfl) rfl (ex_move rfl) ?_
    refine JP_bnd fun y31 hy32 => ?_
    refine JP_sq (i := 3) [8] rfl (by kernel_rfl) (by kernel_rfl) (by kernel_rfl) rfl (wants_none rfl) rfl (sq_index 3 Try.underlying64 ti_2 rfl rfl rfl hy32) (fun q33 => ?_)
    refine JP_sq (i := 4) [9] rfl (by kernel_rfl) (by kernel_rfl) (by kernel_rfl) rfl (wants_none rfl) rfl (sq_load_pt_o 0 (opens_int _) ti_2 rfl rfl) (fun _ => ?_)
    refine JP_take (i := 5) [0, 1, 2, 3, 4, 5, 6, 7, 8, 10] [9] rfl (by kernel_rfl) (by kernel_rfl) (by kernel_rfl) rfl rfl (wants_none rfl) rfl (ex_fieldAddr fi_69_3 rfl rfl) ?_
    refine JP_take (i := 6) [0, 1, 2, 3, 4, 5, 6, 7, 8, 10] [9] rfl (by kernel_rfl) (by kernel_rfl) (by kernel_rfl) rfl rfl (wants_none rfl) rfl (ex_load_bx 2 ti_64 rfl rfl rfl) ?_
    refine JP_take (i := 7) [0, 1, 2, 3, 4, 5, 6, 7, 8, 10] [9] rfl (by kernel_rfl) (by kernel_rfl) (by kernel_rfl) rfl rfl (wants_none rfl) rfl (ex_move rfl) ?_
    refine JP_bnd fun y35 hy36 => ?_
    refine JP_sq (i := 8) [9] rfl (by kernel_rfl) (by kernel_rfl) (by kernel_rfl) rfl (wants_none rfl) rfl (sq_index 5 Try.underlying64 ti_2 rfl rfl rfl hy36) (fun q37 => ?_)
    refine JP_sq (i := 9) [10] rfl (by kernel_rfl) (by kernel_rfl) (by kernel_rfl) rfl (wants_none rfl) rfl (sq_load_pt_o 0 (opens_int _) ti_2 rfl rfl) (fun _ => ?_)
    refine JP_take (i := 10) [0, 1, 2, 3, 4, 5, 6, 7, 8, 9, 11] [10] rfl (by kernel_rfl) (by kernel_rfl) (by kernel_rfl) rfl rfl (wants_none rfl) rfl (ex_move rfl) ?_
    refine JP_take (i := 11) [0, 1, 2, 3, 4, 5, 6, 7, 8, 9, 11] [10] rfl (by kernel_rfl) (by kernel_rfl) (by kernel_rfl) rfl rfl (wants_none rfl) rfl (ex_move rfl) ?_
    refine JP_take (i := 12) [0, 1, 2, 3, 4, 5, 6, 7, 8, 9, 11] [10] rfl (by kernel_rfl) (by kernel_rfl) (by kernel_rfl) rfl rfl (wants_none rfl) rfl (ex_move rfl) ?_
    refine JP_take (i := 13) [0, 1, 2, 3, 4, 5, 6, 7, 8, 9, 11] [10] rfl (by kernel_rfl) (by kernel_rfl) (by kernel_rfl) rfl rfl (wants_none rfl) rfl (ex_move rfl) ?_
    refine JP_take (i := 14) [0, 1, 2, 3, 4, 5, 6, 7, 8, 9, 11] [10] rfl (by kernel_rfl) (by kernel_rfl) (by kernel_rfl) rfl rfl (wants_none rfl) rfl (ex_nilCheck_pa 10 rfl rfl) ?_
    refine JP_sq (i := 15) [10] rfl (by kernel_rfl) (by kernel_rfl) (by kernel_rfl) rfl (wants_none rfl) rfl (sq_field_pa 11 (GMulti.at_Tapes _) fi_33_0 rfl rfl rfl) (fun q39 => ?_)
    refine JP_sq (i := 16) [11] rfl (by kernel_rfl) (by kernel_rfl) (by kernel_rfl) rfl (wants_none rfl) rfl (sq_load_pa_o 0 (opens_int _) ti_2 rfl rfl) (fun _ => ?_)
    refine JP_take (i := 17) [0, 1, 2, 3, 4, 5, 6, 7, 8, 9, 10, 12] [11] rfl (by kernel_rfl) (by kernel_rfl) (by kernel_rfl) rfl rfl (wants_none rfl) rfl (ex_sub rfl rfl) ?_
    refine JP_go [0, 1, 2, 3, 4, 5, 6, 7, 8, 9, 10, 12] [11] rfl rfl rfl (fun w42 h1_43 hp41 => ?_)
    refine JD_one (i := 18) (by kernel_rfl) ?_
    refine JO_st rfl (wants_none rfl) rfl (st_buildSlice (vs := [.int .i64 1, .int .i64 p1, .int .i64 p2, .int .i64 (ior p3 (w64 (1 * 2 ^ min (p2 : Int).toNat 64))), .int .i64 (w64 (p0.Tapes - 1))]) ([1, p1, p2, (ior p3 (w64 (1 * 2 ^ min (p2 : Int).toNat 64))), (w64 (p0.Tapes - 1))] : List Int) Try.underlying64 ti_2 zi_2 rfl rfl rfl (fun w hh => ⟨(Rd.mk_int _ _ _), (Rd.mk_int _ _ _), (Rd.mk_int _ _ _), (Rd.mk_int _ _ _), (Rd.mk_int _ _ _), trivial⟩)) (fun _ hk => nomatch hk) (fun b44 => ?_)
    refine JD_bnd fun r45 hr46 => ?_
    refine JD_one (i := 19) (by kernel_rfl) ?_
    refine JO_call rfl (wants_none rfl) rfl Try.call65 rfl (Ca_self (fun _ => rfl) fun w hh => c_spec_l13Go _ w (fun _ hk => hk.elim) _ _ _ _ (hh.ow0 0 rfl) _ hr46) (fun x47 => ?_)
    refine JD_ctx (fun w hh => hh.tokf 1 rfl rfl) (tokf_owns (i := 1) rfl) ?_
    refine JD_ctx (fun w hh => hh.sub_rd 2 rfl (hh.pr 1 rfl)) (fun _ hb => hb) ?_
    refine JD_ctx (fun w hh => hh.sub_tkn 1 rfl (hh.pr 2 rfl)) (tkn_owns (i := 1) rfl) ?_
    refine JD_one (i := 20) (by kernel_rfl) ?_
    refine JO_sk rfl (wants_none rfl) (sk_store_bx' 15 ti_96 rfl rfl (fun w hh => (cv_aggs ⟨cv_bool, cv_int, cv_int, (hh.cv 0 rfl), trivial⟩)) rfl rfl rfl rfl) (sub_bx 0 rfl) ?_
    refine JD_done (by kernel_rfl) ?_
    refine N_then ?_
    refine J_ret ?_
    exact N_ret1 rfl (rv_cell 15 rfl rfl ti_96 rfl) (fun w hh => ⟨(x47, (((.slice (some ⟨b44, 0, none⟩) 5 5) : Value).ownBlock.toList ++ [])), rfl, hh.sel [1] rfl⟩)

set_option maxHeartbeats 40000000 in
theorem c_spec_l13Several (A : Nat → Prop) (w : World) (hA : ∀ k, A k → k < w.heap.size) (v0_ : Value) (p0 : GMulti) (hp0 : RdA A w.heap.size w v0_ p0) (v1_ : Value) (p1 : (List Int)) (hp1 : Rd A w v1_ p1) (p2 : Int) (r : Gl13Move) (hr : F_spec_l13Several p0 p1 p2 = some r) :
    Con Try.prog 61 [v0_, v1_, .int .i64 p2] A w (fun x_ : Value × List Nat => .agg #[.bool r.ok, .int .i64 r.write, .int .i64 r.move, x_.1]) (fun x_ => [.tkn x_.1 r.next x_.2]) := by
  refine Con_of (v := fun (r : Gl13Move) (x_ : Value × List Nat) => .agg #[.bool r.ok, .int .i64 r.write, .int .i64 r.move, x_.1]) (fs := fun r x_ => [.tkn x_.1 r.next x_.2]) Try.func61 rfl Try.ntmps61 rfl (((SH.start hA).start_pa' rfl hp0).start_rd rfl hp1) rfl ?_ hr
  unfold F_spec_l13Several
  refine J_seq ?_
  refine J_region ?_
  refine JL_st (wants_none rfl) rfl (st_alloc zi_96 rfl) (fun b1 => ?_)
  refine JL_nil ?_
  refine N_then ?_
  refine J_seq ?_
  refine J_region ?_
  refine JL_q (wants_none rfl) rfl (ex_move rfl) ?_
  refine JL_q (wants_none rfl) rfl (ex_move rfl) ?_
  refine JL_q (wants_none rfl) rfl (ex_nilCheck_pa 2 rfl rfl) ?_
  refine JL_st (wants_none rfl) rfl (st_field_pa 2 (GMulti.at_Symbols _) fi_33_1 rfl rfl rfl) (fun q2 => ?_)
  refine JL_st (wants_none rfl) rfl (st_load_pa_o 0 (opens_int _) ti_2 rfl rfl) (fun _ => ?_)
  refine JL_bnd fun u4 hu5 => ?_
  refine JL_q (wants_none rfl) rfl (ex_rem rfl rfl (nz_ne hu5)) ?_
  refine JL_q (wants_none rfl) rfl (ex_assign rfl) ?_
  refine JL_nil ?_
  refine N_then ?_
  refine J_seq ?_
  refine J_region ?_
  refine JL_q (wants_none rfl) rfl (ex_move rfl) ?_
  refine JL_q (wants_none rfl) rfl (ex_move rfl) ?_
  refine JL_q (wants_none rfl) rfl (ex_nilCheck_pa 3 rfl rfl) ?_
  refine JL_st (wants_none rfl) rfl (st_field_pa 3 (GMulti.at_Symbols _) fi_33_1 rfl rfl rfl) (fun q6 => ?_)
  refine JL_st (wants_none rfl) rfl (st_load_pa_o 0 (opens_int _) ti_2 rfl rfl) (fun _ => ?_)
  refine JL_q (wants_none rfl) rfl (ex_geq rfl rfl) ?_
  refine JL_q (wants_none rfl) rfl (ex_assign rfl) ?_
  refine JL_nil ?_
  refine N_then ?_
  refine J_seq ?_
  refine J_seq ?_
  refine J_region ?_
  refine JL_q (wants_none rfl) rfl (ex_move rfl) ?_
  refine JL_bnd fun y8 hy9 => ?_
  refine JL_st (wants_none rfl) rfl (st_index 3 Try.underlying64 ti_2 rfl rfl rfl hy9) (fun q10 => ?_)
  refine JL_st (wants_none rfl) rfl (st_load_pt_o 0 (opens_int _) ti_2 rfl rfl) (fun _ => ?_)
  refine JL_q (wants_none rfl) rfl (ex_eql rfl rfl) ?_
  refine JL_nil ?_
  refine N_then ?_
  refine J_if rfl (fun h12 => ?_) (fun h12 => ?_)
  · refine J_seq ?_
    refine J_seq ?_
    refine J_region ?_
    refine JL_q (wants_none rfl) rfl (ex_move rfl) ?_
    refine JL_bnd fun y13 hy14 => ?_
    refine JL_st (wants_none rfl) rfl (st_index 4 Try.underlying64 ti_2 rfl rfl rfl hy14) (fun q15 => ?_)
    refine JL_st (wants_none rfl) rfl (st_load_pt_o 0 (opens_int _) ti_2 rfl rfl) (fun _ => ?_)
    refine JL_q (wants_none rfl) rfl (ex_eql rfl rfl) ?_
    refine JL_nil ?_
    refine N_then ?_
    refine J_if rfl (fun h17 => ?_) (fun h17 => ?_)
    · refine J_seq ?_
      refine J_region ?_
      refine JL_q (wants_none rfl) rfl (ex_move rfl) ?_
      refine JL_q (wants_none rfl) rfl (ex_move rfl) ?_
      refine JL_q (wants_none rfl) rfl (ex_move rfl) ?_
      refine JL_bnd fun y18 hy19 => ?_
      refine JL_st (wants_none rfl) rfl (st_index 5 Try.underlying64 ti_2 rfl rfl rfl hy19) (fun q20 => ?_)
      refine JL_st (wants_none rfl) rfl (st_load_pt_o 0 (opens_int _) ti_2 rfl rfl) (fun _ => ?_)
      refine JL_bnd fun r22 hr23 => ?_
      refine JL_call (wants_none rfl) rfl Try.call30 rfl (Ca_self (fun _ => rfl) fun w hh => c_spec_l13Look _ w (fun _ hk => hk.elim) _ _ (hh.pa0 7 rfl) _ _ hr23) (fun x24 => ?_)
      refine JL_bnd fun r25 hr26 => ?_
      refine JL_call (wants_none rfl) rfl Try.call65 rfl (Ca_self (fun _ => rfl) fun w hh => c_spec_l13Go _ w (fun _ hk => hk.elim) _ _ _ _ (hh.ow0 0 rfl) _ hr26) (fun x27 => ?_)
      refine JL_ctx (fun w hh => hh.tokf 1 rfl rfl) ?_
      refine JL_ctx (fun w hh => hh.sub_rd 2 rfl (hh.pr 1 rfl)) ?_
      refine JL_ctx (fun w hh => hh.sub_tkn 1 rfl (hh.pr 2 rfl)) ?_
      refine JL_sk (wants_none rfl) (sk_store_bx' 9 ti_96 rfl rfl (fun w hh => (cv_aggs ⟨cv_bool, cv_int, cv_int, (hh.cv 0 rfl), trivial⟩)) rfl rfl rfl rfl) ?_
      refine JL_nil ?_
      refine N_then ?_
      refine J_ret ?_
      refine N_then_ret ?_
      refine N_then_ret ?_
      exact N_ret1 rfl (rv_cell 9 rfl rfl ti_96 rfl) (fun w hh => ⟨(x27, ((x24 : Value).ownBlock.toList ++ [])), rfl, hh.sel [1] rfl⟩)
    · refine J_skip ?_
      refine N_then ?_
      refine J_seq ?_
      refine J_draw [4] (by kernel_rfl) ?_
      refine JP_take (i := 0) [0, 1, 2, 3, 5, 6] [4] rfl (by kernel_rfl) (by kernel_rfl) (by kernel_rfl) rfl rfl (wants_none rfl) rfl (ex_move rfl) ?_
      refine JP_take (i := 1) [0, 1, 2, 3, 5, 6] [4] rfl (by kernel_rfl) (by kernel_rfl) (by kernel_rfl) rfl rfl (wants_none rfl) rfl (ex_move rfl) ?_
      refine JP_bnd fun y28 hy29 => ?_
      refine JP_sq (i := 2) [4] rfl (by kernel_rfl) (by kernel_rfl) (by kernel_rfl) rfl (wants_none rfl) rfl (sq_index 5 Try.underlying64 ti_2 rfl rfl rfl hy29) (fun q30 => ?_)
      refine JP_sq (i := 3) [5] rfl (by kernel_rfl) (by kernel_rfl) (by kernel_rfl) rfl (wants_none rfl) rfl (sq_load_pt_o 0 (opens_int _) ti_2 rfl rfl) (fun _ => ?_)
      refine JP_take (i := 4) [0, 1, 2, 3, 4, 6, 7] [5] rfl (by kernel_rfl) (by kernel_rfl) (by kernel_rfl) rfl rfl (wants_none rfl) rfl (ex_move rfl) ?_
      refine JP_bnd fun y32 hy33 => ?_
      refine JP_sq (i := 5) [5] rfl (by kernel_rfl) (by kernel_rfl) (by kernel_rfl) rfl (wants_none rfl) rfl (sq_index 6 Try.underlying64 ti_2 rfl rfl rfl hy33) (fun q34 => ?_)
      refine JP_sq (i := 6) [6] rfl (by kernel_rfl) (by kernel_rfl) (by kernel_rfl) rfl (wants_none rfl) rfl (sq_load_pt_o 0 (opens_int _) ti_2 rfl rfl) (fun _ => ?_)
      refine JP_take (i := 7) [0, 1, 2, 3, 4, 5, 7, 8] [6] rfl (by kernel_rfl) (by kernel_rfl) (by kernel_rfl) rfl rfl (wants_none rfl) rfl (ex_sub rfl rfl) ?_
      refine JP_go [0, 1, 2, 3, 4, 5, 7, 8] [6] rfl rfl rfl (fun w37 h1_38 hp36 => ?_)
      refine JD_one (i := 8) (by kernel_rfl) ?_
      refine JO_st rfl (wants_none rfl) rfl (st_buildSlice (vs := [.int .i64 4, .int .i64 y28, .int .i64 (w64 (y32 - 1))]) ([4, y28, (w64 (y32 - 1))] : List Int) Try.underlying64 ti_2 zi_2 rfl rfl rfl (fun w hh => ⟨(Rd.mk_int _ _ _), (Rd.mk_int _ _ _), (Rd.mk_int _ _ _), trivial⟩)) (fun _ hk => nomatch hk) (fun b39 => ?_)
      refine JD_bnd fun r40 hr41 => ?_
      refine JD_one (i := 9) (by kernel_rfl) ?_
      refine JO_call rfl (wants_none rfl) rfl Try.call65 rfl (Ca_self (fun _ => rfl) fun w hh => c_spec_l13Go _ w (fun _ hk => hk.elim) _ _ _ _ (hh.ow0 0 rfl) _ hr41) (fun x42 => ?_)
      refine JD_ctx (fun w hh => hh.tokf 1 rfl rfl) (tokf_owns (i := 1) rfl) ?_
      refine JD_ctx (fun w hh => hh.sub_rd 2 rfl (hh.pr 1 rfl)) (fun _ hb => hb) ?_
      refine JD_ctx (fun w hh => hh.sub_tkn 1 rfl (hh.pr 2 rfl)) (tkn_owns (i := 1) rfl) ?_
      refine JD_one (i := 10) (by kernel_rfl) ?_
      refine JO_sk rfl (wants_none rfl) (sk_store_bx' 10 ti_96 rfl rfl (fun w hh => (cv_aggs ⟨cv_bool, cv_int, cv_int, (hh.cv 0 rfl), trivial⟩)) rfl rfl rfl rfl) (sub_bx 0 rfl) ?_
      refine JD_done (by kernel_rfl) ?_
      refine N_then ?_
      refine J_ret ?_
      refine N_then_ret ?_
      exact N_ret1 rfl (rv_cell 10 rfl rfl ti_96 rfl) (fun w hh => ⟨(x42, (((.slice (some ⟨b39, 0, none⟩) 3 3) : Value).ownBlock.toList ++ [])), rfl, hh.sel [1] rfl⟩)
  · refine J_skip ?_
    refine N_then ?_
    refine J_seq ?_
    refine J_seq ?_
    refine J_region ?_
    refine JL_q (wants_none rfl) rfl (ex_move rfl) ?_
    refine JL_bnd fun y43 hy44 => ?_
    refine JL_st (wants_none rfl) rfl (st_index 4 Try.underlying64 ti_2 rfl rfl rfl hy44) (fun q45 => ?_)
    refine JL_st (wants_none rfl) rfl (st_load_pt_o 0 (opens_int _) ti_2 rfl rfl) (fun _ => ?_)
    refine JL_q (wants_none rfl) rfl (ex_eql rfl rfl) ?_
    refine JL_nil ?_
    refine N_then ?_
    refine J_if rfl (fun h47 => ?_) (fun h47 => ?_)
    · refine J_seq ?_
      refine J_region ?_
      refine JL_q (wants_none rfl) rfl (ex_move rfl) ?_
      refine JL_bnd fun y48 hy49 => ?_
      refine JL_st (wants_none rfl) rfl (st_index 5 Try.underlying64 ti_2 rfl rfl rfl hy49) (fun q50 => ?_)
      refine JL_st (wants_none rfl) rfl (st_load_pt_o 0 (opens_int _) ti_2 rfl rfl) (fun _ => ?_)
      refine JL_q (wants_none rfl) rfl (ex_assign rfl) ?_
      refine JL_nil ?_
      refine N_then ?_
      refine J_seq ?_
      refine J_region ?_
      refine JL_q (wants_none rfl) rfl (ex_move rfl) ?_
      refine JL_bnd fun y52 hy53 => ?_
      refine JL_st (wants_none rfl) rfl (st_index 6 Try.underlying64 ti_2 rfl rfl rfl hy53) (fun q54 => ?_)
      refine JL_st (wants_none rfl) rfl (st_load_pt_o 0 (opens_int _) ti_2 rfl rfl) (fun _ => ?_)
      refine JL_q (wants_none rfl) rfl (ex_assign rfl) ?_
      refine JL_nil ?_
      refine N_then ?_
      refine J_seq ?_
      refine J_region ?_
      refine JL_q (wants_none rfl) rfl (ex_move rfl) ?_
      refine JL_bnd fun z56 hz57 => ?_
      refine JL_st (wants_none rfl) rfl (st_slice 7 Try.underlying64 ti_2 rfl rfl rfl rfl hz57) (fun v58 => ?_)
      refine JL_bnd fun r59 hr60 => ?_
      refine JL_call (wants_none rfl) rfl Try.call66 rfl (Ca_self (fun _ => rfl) fun w hh => c_spec_l00Own _ w (fun _ hk => hk.elim) _ _ (hh.rd0 0 rfl) _ hr60) (fun x61 => ?_)
      refine JL_q (wants_none rfl) rfl (ex_assign rfl) ?_
      refine JL_nil ?_
      refine N_then ?_
      refine J_seq ?_
      refine J_cut' (S' := (List Int)) (G' := Unit) (fun s62 _ => [(0, v0_), (2, .int .i64 p2), (6, .pointer (some ⟨b1, 0, none⟩)), (9, .int .i64 y48), (10, .int .i64 y52), (11, x61)]) (fun s62 _ => [.pa v0_ p0, .bx b1 96 [.bool false, .int .i64 0, .int .i64 0, .slice none 0 0], .ow 2 x61 s62]) ?_ (fun s62 g63 => ?_)
      · refine J_seq ?_
        refine J_region ?_
        refine JL_q (wants_none rfl) rfl (ex_move rfl) ?_
        refine JL_q (wants_none rfl) rfl (ex_move rfl) ?_
        refine JL_cond (fun h64 => ?_) (fun h64 => ?_)
        · refine JL_q (wants_some rfl rfl rfl h64) rfl (ex_move rfl) ?_
          refine JL_q (wants_some rfl rfl rfl h64) rfl (ex_move rfl) ?_
          refine JL_bnd fun y65 hy66 => ?_
          refine JL_ow_open (v := x61) 0 rfl hy66 ?_; rintro b67 cap68 rfl
          refine JL_q (wants_some rfl rfl rfl h64) rfl (ex_index_ow 0 Try.underlying64 ti_2 rfl rfl rfl hy66) ?_
          refine JL_q (wants_some rfl rfl rfl h64) rfl (ex_load_ow_int 0 ti_2 rfl rfl hy66) ?_
          refine JL_q (wants_some rfl rfl rfl h64) rfl (ex_lss rfl rfl) ?_
          refine JL_q (wants_none rfl) rfl (ex_pick_true rfl h64 rfl) ?_
          refine JL_nil ?_
          refine N_then ?_
          refine J_if rfl (fun h70 => ?_) (fun h70 => ?_)
          · refine J_region ?_
            refine JL_q (wants_none rfl) rfl (ex_move rfl) ?_
            refine JL_q (wants_none rfl) rfl (ex_move rfl) ?_
            refine JL_q (wants_none rfl) rfl (ex_move rfl) ?_
            refine JL_bnd fun y71 hy72 => ?_
            refine JL_q (wants_none rfl) rfl (ex_index_ow 0 Try.underlying64 ti_2 rfl rfl rfl hy72) ?_
            refine JL_sk (wants_none rfl) (sk_store_ow 0 ti_2 rfl rfl rfl hy72 (fun w hh => (Rd.mk_int _ _ _))) ?_
            refine JL_nil ?_
            exact N_meet' () ⟨rfl, rfl, rfl, rfl, rfl, rfl, trivial⟩ [10, 8, 0] rfl rfl
          · refine J_skip ?_
            exact N_meet' () ⟨rfl, rfl, rfl, rfl, rfl, rfl, trivial⟩ [10, 8, 0] rfl rfl
        · refine JL_passed rfl rfl rfl h64 ?_
          refine JL_passed rfl rfl rfl h64 ?_
          refine JL_passed rfl rfl rfl h64 ?_
          refine JL_passed rfl rfl rfl h64 ?_
          refine JL_passed rfl rfl rfl h64 ?_
          refine JL_q (wants_none rfl) rfl (ex_pick_false rfl h64 rfl) ?_
          refine JL_nil ?_
          refine N_then ?_
          refine J_if_false rfl rfl ?_
          refine J_skip ?_
          exact N_meet' () ⟨rfl, rfl, rfl, rfl, rfl, rfl, trivial⟩ [10, 8, 0] rfl rfl
      · refine N_then ?_
        refine J_seq ?_
        refine J_seq ?_
        refine J_region ?_
        refine JL_q (wants_none rfl) rfl (ex_move rfl) ?_
        refine JL_bnd fun r73 hr74 => ?_
        refine JL_call (wants_none rfl) rfl Try.call67 rfl (Ca_of0 fun w hh => c_spec_l00Has _ w (fun _ hk => hk.elim) _ _ (hh.ow0 2 rfl) _ _ hr74) (fun _ => ?_)
        refine JL_nil ?_
        refine N_then ?_
        refine J_if rfl (fun h75 => ?_) (fun h75 => ?_)
        · refine J_seq ?_
          refine J_region ?_
          refine JL_q (wants_none rfl) rfl (ex_move rfl) ?_
          refine JL_q (wants_none rfl) rfl (ex_move rfl) ?_
          refine JL_q (wants_none rfl) rfl (ex_move rfl) ?_
          refine JL_q (wants_none rfl) rfl (ex_add rfl rfl) ?_
          refine JL_q (wants_none rfl) rfl (ex_move rfl) ?_
          refine JL_q (wants_none rfl) rfl (ex_nilCheck_pa 0 rfl rfl) ?_
          refine JL_st (wants_none rfl) rfl (st_field_pa 0 (GMulti.at_Tapes _) fi_33_0 rfl rfl rfl) (fun q76 => ?_)
          refine JL_st (wants_none rfl) rfl (st_load_pa_o 0 (opens_int _) ti_2 rfl rfl) (fun _ => ?_)
          refine JL_bnd fun u78 hu79 => ?_
          refine JL_q (wants_none rfl) rfl (ex_rem rfl rfl (nz_ne hu79)) ?_
          refine JL_st (wants_none rfl) rfl (st_buildSlice (vs := [.int .i64 0, .int .i64 y48, .int .i64 (Int.tmod (w64 (y52 + 1)) p0.Tapes)]) ([0, y48, (Int.tmod (w64 (y52 + 1)) p0.Tapes)] : List Int) Try.underlying64 ti_2 zi_2 rfl rfl rfl (fun w hh => ⟨(Rd.mk_int _ _ _), (Rd.mk_int _ _ _), (Rd.mk_int _ _ _), trivial⟩)) (fun b80 => ?_)
          refine JL_q (wants_none rfl) rfl (ex_move rfl) ?_
          refine JL_bnd fun z81 hz82 => ?_
          refine JL_st (wants_none rfl) rfl (st_append 0 Try.underlying64 ti_2 zi_2 rfl bi_2 rfl rfl rfl rfl (fun w hh => hh.src_ow 4 rfl) hz82) (fun v83 => ?_)
          refine JL_bnd fun r84 hr85 => ?_
          refine JL_call (wants_none rfl) rfl Try.call65 rfl (Ca_self (fun _ => rfl) fun w hh => c_spec_l13Go _ w (fun _ hk => hk.elim) _ _ _ _ (hh.ow0 0 rfl) _ hr85) (fun x86 => ?_)
          refine JL_ctx (fun w hh => hh.tokf 1 rfl rfl) ?_
          refine JL_ctx (fun w hh => hh.sub_rd 2 rfl (hh.pr 1 rfl)) ?_
          refine JL_ctx (fun w hh => hh.sub_tkn 1 rfl (hh.pr 2 rfl)) ?_
          refine JL_sk (wants_none rfl) (sk_store_bx' 6 ti_96 rfl rfl (fun w hh => (cv_aggs ⟨cv_bool, cv_int, cv_int, (hh.cv 0 rfl), trivial⟩)) rfl rfl rfl rfl) ?_
          refine JL_nil ?_
          refine N_then ?_
          refine J_ret ?_
          refine N_then_ret ?_
          refine N_then_ret ?_
          exact N_ret1 rfl (rv_cell 6 rfl rfl ti_96 rfl) (fun w hh => ⟨(x86, ((v83 : Value).ownBlock.toList ++ [])), rfl, hh.sel [1] rfl⟩)
        · refine J_skip ?_
          refine N_then ?_
          refine J_seq ?_
          refine J_region ?_
          refine JL_q (wants_none rfl) rfl (ex_move rfl) ?_
          refine JL_q (wants_none rfl) rfl (ex_move rfl) ?_
          refine JL_q (wants_none rfl) rfl (ex_move rfl) ?_
          refine JL_bnd fun r87 hr88 => ?_
          refine JL_call (wants_none rfl) rfl Try.call68 rfl (Ca_of0 fun w hh => c_spec_l06RuleOf _ w (fun _ hk => hk.elim) _ _ (hh.pa0 0 rfl) _ _ _ (hh.ow0 2 rfl) _ hr88) (fun _ => ?_)
          refine JL_q (wants_none rfl) rfl (ex_assign rfl) ?_
          refine JL_nil ?_
          refine N_then ?_
          refine J_seq ?_
          refine J_seq ?_
          refine J_region ?_
          refine JL_q (wants_none rfl) rfl (ex_move rfl) ?_
          refine JL_q (wants_none rfl) rfl (ex_lss rfl rfl) ?_
          refine JL_nil ?_
          refine N_then ?_
          refine J_if rfl (fun h89 => ?_) (fun h89 => ?_)
          · refine J_seq ?_
            refine J_region ?_
            refine JL_q (wants_none rfl) rfl (ex_build si_96 rfl .nil (fun w hh => trivial)) ?_
            refine JL_sk (wants_none rfl) (sk_store_bx' 1 ti_96 rfl rfl (fun w hh => (cv_aggs ⟨cv_bool, cv_int, cv_int, cv_slice, trivial⟩)) rfl rfl rfl rfl) ?_
            refine JL_nil ?_
            refine N_then ?_
            refine J_ret ?_
            refine N_then_ret ?_
            refine N_then_ret ?_
            refine N_ctx (fun w hh => SH.ow_nil (α := Int) 2 hh) ?_
            refine N_ctx (fun w hh => hh.tokf 0 rfl rfl) ?_
            exact N_ret1 rfl (rv_cell 3 rfl rfl ti_96 rfl) (fun w hh => ⟨((.slice none 0 0 : Value), ((.slice none 0 0 : Value).ownBlock.toList ++ [])), rfl, hh.sel [0] rfl⟩)
          · refine J_skip ?_
            refine N_then ?_
            refine J_seq ?_
            refine J_region ?_
            refine JL_q (wants_none rfl) rfl (ex_move rfl) ?_
            refine JL_q (wants_none rfl) rfl (ex_move rfl) ?_
            refine JL_q (wants_none rfl) rfl (ex_move rfl) ?_
            refine JL_bnd fun r90 hr91 => ?_
            refine JL_call (wants_none rfl) rfl Try.call69 rfl (Ca_self (fun _ => rfl) fun w hh => c_spec_l13Put _ w (fun _ hk => hk.elim) _ _ (hh.pa0 0 rfl) _ _ _ _ hr91) (fun x92 => ?_)
            obtain ⟨x92_0, x92_1⟩ := x92
            refine JL_ctx (fun w hh => hh.tkn_rd 0 rfl) ?_
            refine JL_sk (wants_none rfl) (sk_store_bx' 3 ti_96 rfl rfl (fun w hh => (cv_aggs ⟨cv_bool, cv_int, cv_int, (hh.cv 0 rfl), trivial⟩)) rfl rfl rfl rfl) ?_
            refine JL_nil ?_
            refine N_then ?_
            refine J_ret ?_
            refine N_then_ret ?_
            exact N_ret1 rfl (rv_cell 3 rfl rfl ti_96 rfl) (fun w hh => ⟨(x92_0, x92_1), rfl, hh.sel [1] rfl⟩)
    · refine J_skip ?_
      refine N_then ?_
      refine J_seq ?_
      refine J_region ?_
      refine JL_q (wants_none rfl) rfl (ex_move rfl) ?_
      refine JL_bnd fun y93 hy94 => ?_
      refine JL_st (wants_none rfl) rfl (st_index 5 Try.underlying64 ti_2 rfl rfl rfl hy94) (fun q95 => ?_)
      refine JL_st (wants_none rfl) rfl (st_load_pt_o 0 (opens_int _) ti_2 rfl rfl) (fun _ => ?_)
      refine JL_q (wants_none rfl) rfl (ex_assign rfl) ?_
      refine JL_nil ?_
      refine N_then ?_
      refine J_seq ?_
      refine J_region ?_
      refine JL_q (wants_none rfl) rfl (ex_move rfl) ?_
      refine JL_bnd fun y97 hy98 => ?_
      refine JL_st (wants_none rfl) rfl (st_index 6 Try.underlying64 ti_2 rfl rfl rfl hy98) (fun q99 => ?_)
      refine JL_st (wants_none rfl) rfl (st_load_pt_o 0 (opens_int _) ti_2 rfl rfl) (fun _ => ?_)
      refine JL_q (wants_none rfl) rfl (ex_assign rfl) ?_
      refine JL_nil ?_
      refine N_then ?_
      refine J_seq ?_
      refine J_region ?_
      refine JL_q (wants_none rfl) rfl (ex_move rfl) ?_
      refine JL_bnd fun y101 hy102 => ?_
      refine JL_st (wants_none rfl) rfl (st_index 7 Try.underlying64 ti_2 rfl rfl rfl hy102) (fun q103 => ?_)
      refine JL_st (wants_none rfl) rfl (st_load_pt_o 0 (opens_int _) ti_2 rfl rfl) (fun _ => ?_)
      refine JL_q (wants_none rfl) rfl (ex_assign rfl) ?_
      refine JL_nil ?_
      refine N_then ?_
      refine J_seq ?_
      refine J_seq ?_
      refine J_region ?_
      refine JL_q (wants_none rfl) rfl (ex_move rfl) ?_
      refine JL_bnd fun y105 hy106 => ?_
      refine JL_st (wants_none rfl) rfl (st_index 8 Try.underlying64 ti_2 rfl rfl rfl hy106) (fun q107 => ?_)
      refine JL_st (wants_none rfl) rfl (st_load_pt_o 0 (opens_int _) ti_2 rfl rfl) (fun _ => ?_)
      refine JL_nil ?_
      refine N_then ?_
      refine J_block ?_
      refine J_seq ?_
      refine J_region ?_
      refine JL_q (wants_none rfl) rfl (ex_eql rfl rfl) ?_
      refine JL_q (wants_none rfl) rfl (ex_assign rfl) ?_
      refine JL_nil ?_
      refine N_then ?_
      refine J_if rfl (fun h109 => ?_) (fun h109 => ?_)
      · refine J_seq ?_
        refine J_region ?_
        refine JL_q (wants_none rfl) rfl (ex_move rfl) ?_
        refine JL_q (wants_none rfl) rfl (ex_nilCheck_pa 10 rfl rfl) ?_
        refine JL_st (wants_none rfl) rfl (st_field_pa 10 (GMulti.at_Rules _) fi_33_3 rfl rfl rfl) (fun q110 => ?_)
        refine JL_st (wants_none rfl) rfl (st_load_pa_o 0 (opens_sl _) ti_31 rfl rfl) (fun v111 => ?_)
        refine JL_q (wants_none rfl) rfl (ex_move rfl) ?_
        refine JL_bnd fun y112 hy113 => ?_
        refine JL_st (wants_none rfl) rfl (st_index 0 Try.underlying31 ti_69 rfl rfl rfl hy113) (fun q114 => ?_)
        refine JL_st (wants_none rfl) rfl (st_field_pt 0 (GMultiRule.at_Move _) fi_69_3 rfl rfl rfl) (fun q115 => ?_)
        refine JL_st (wants_none rfl) rfl (st_load_pt_o 0 (opens_sl _) ti_64 rfl rfl) (fun v116 => ?_)
        refine JL_q (wants_none rfl) rfl (ex_move rfl) ?_
        refine JL_bnd fun y117 hy118 => ?_
        refine JL_st (wants_none rfl) rfl (st_index 0 Try.underlying64 ti_2 rfl rfl rfl hy118) (fun q119 => ?_)
        refine JL_st (wants_none rfl) rfl (st_load_pt_o 0 (opens_int _) ti_2 rfl rfl) (fun _ => ?_)
        refine JL_q (wants_none rfl) rfl (ex_assign rfl) ?_
        refine JL_nil ?_
        refine N_then ?_
        refine J_seq ?_
        refine J_seq ?_
        refine J_region ?_
        refine JL_q (wants_none rfl) rfl (ex_move rfl) ?_
        refine JL_bnd fun y121 hy122 => ?_
        refine JL_st (wants_none rfl) rfl (st_index 15 Try.underlying64 ti_2 rfl rfl rfl hy122) (fun q123 => ?_)
        refine JL_st (wants_none rfl) rfl (st_load_pt_o 0 (opens_int _) ti_2 rfl rfl) (fun _ => ?_)
        refine JL_q (wants_none rfl) rfl (ex_gtr rfl rfl) ?_
        refine JL_nil ?_
        refine N_then ?_
        refine J_if rfl (fun h125 => ?_) (fun h125 => ?_)
        · refine J_seq ?_
          refine J_region ?_
          refine JL_q (wants_none rfl) rfl (ex_move rfl) ?_
          refine JL_q (wants_none rfl) rfl (ex_move rfl) ?_
          refine JL_q (wants_none rfl) rfl (ex_move rfl) ?_
          refine JL_q (wants_none rfl) rfl (ex_move rfl) ?_
          refine JL_q (wants_none rfl) rfl (ex_move rfl) ?_
          refine JL_q (wants_none rfl) rfl (ex_move rfl) ?_
          refine JL_bnd fun y126 hy127 => ?_
          refine JL_st (wants_none rfl) rfl (st_index 16 Try.underlying64 ti_2 rfl rfl rfl hy127) (fun q128 => ?_)
          refine JL_st (wants_none rfl) rfl (st_load_pt_o 0 (opens_int _) ti_2 rfl rfl) (fun _ => ?_)
          refine JL_q (wants_none rfl) rfl (ex_sub rfl rfl) ?_
          refine JL_st (wants_none rfl) rfl (st_buildSlice (vs := [.int .i64 1, .int .i64 y93, .int .i64 y97, .int .i64 y101, .int .i64 (w64 (y126 - 1))]) ([1, y93, y97, y101, (w64 (y126 - 1))] : List Int) Try.underlying64 ti_2 zi_2 rfl rfl rfl (fun w hh => ⟨(Rd.mk_int _ _ _), (Rd.mk_int _ _ _), (Rd.mk_int _ _ _), (Rd.mk_int _ _ _), (Rd.mk_int _ _ _), trivial⟩)) (fun b130 => ?_)
          refine JL_bnd fun r131 hr132 => ?_
          refine JL_call (wants_none rfl) rfl Try.call65 rfl (Ca_self (fun _ => rfl) fun w hh => c_spec_l13Go _ w (fun _ hk => hk.elim) _ _ _ _ (hh.ow0 0 rfl) _ hr132) (fun x133 => ?_)
          refine JL_ctx (fun w hh => hh.tokf 1 rfl rfl) ?_
          refine JL_ctx (fun w hh => hh.sub_rd 2 rfl (hh.pr 1 rfl)) ?_
          refine JL_ctx (fun w hh => hh.sub_tkn 1 rfl (hh.pr 2 rfl)) ?_
          refine JL_sk (wants_none rfl) (sk_store_bx' 20 ti_96 rfl rfl (fun w hh => (cv_aggs ⟨cv_bool, cv_int, cv_int, (hh.cv 0 rfl), trivial⟩)) rfl rfl rfl rfl) ?_
          refine JL_nil ?_
          refine N_then ?_
          refine J_ret ?_
          refine N_then_ret ?_
          refine N_block_ret ?_
          refine N_then_ret ?_
          exact N_ret1 rfl (rv_cell 20 rfl rfl ti_96 rfl) (fun w hh => ⟨(x133, (((.slice (some ⟨b130, 0, none⟩) 5 5) : Value).ownBlock.toList ++ [])), rfl, hh.sel [1] rfl⟩)
        · refine J_skip ?_
          refine N_then ?_
          refine J_seq ?_
          refine J_draw [15] (by kernel_rfl) ?_
          refine JP_take (i := 0) [0, 1, 2, 3, 4, 5, 6, 7, 8, 9, 10, 11, 12, 13, 14, 16, 17] [15] rfl (by kernel_rfl) (by kernel_rfl) (by kernel_rfl) rfl rfl (wants_none rfl) rfl (ex_move rfl) ?_
          refine JP_take (i := 1) [0, 1, 2, 3, 4, 5, 6, 7, 8, 9, 10, 11, 12, 13, 14, 16, 17] [15] rfl (by kernel_rfl) (by kernel_rfl) (by kernel_rfl) rfl rfl (wants_none rfl) rfl (ex_move rfl) ?_
          refine JP_take (i := 2) [0, 1, 2, 3, 4, 5, 6, 7, 8, 9, 10, 11, 12, 13, 14, 16, 17] [15] rfl (by kernel_rfl) (by kernel_rfl) (by kernel_rfl) rfl rfl (wants_none rfl) rfl (ex_nilCheck_pa 16 rfl rfl) ?_
          refine JP_sq (i := 3) [15] rfl (by kernel_rfl) (by kernel_rfl) (by kernel_rfl) rfl (wants_none rfl) rfl (sq_field_pa 17 (GMulti.at_Symbols _) fi_33_1 rfl rfl rfl) (fun q134 => ?_)
          refine JP_sq (i := 4) [16] rfl (by kernel_rfl) (by kernel_rfl) (by kernel_rfl) rfl (wants_none rfl) rfl (sq_load_pa_o 0 (opens_int _) ti_2 rfl rfl) (fun _ => ?_)
          refine JP_take (i := 5) [0, 1, 2, 3, 4, 5, 6, 7, 8, 9, 10, 11, 12, 13, 14, 15, 17, 18] [16] rfl (by kernel_rfl) (by kernel_rfl) (by kernel_rfl) rfl rfl (wants_none rfl) rfl (ex_add rfl rfl) ?_
          refine JP_take (i := 6) [0, 1, 2, 3, 4, 5, 6, 7, 8, 9, 10, 11, 12, 13, 14, 15, 17, 18] [16] rfl (by kernel_rfl) (by kernel_rfl) (by kernel_rfl) rfl rfl (wants_none rfl) rfl (ex_move rfl) ?_
          refine JP_take (i := 7) [0, 1, 2, 3, 4, 5, 6, 7, 8, 9, 10, 11, 12, 13, 14, 15, 17, 18] [16] rfl (by kernel_rfl) (by kernel_rfl) (by kernel_rfl) rfl rfl (wants_none rfl) rfl (ex_neg rfl) ?_
          refine JP_take (i := 8) [0, 1, 2, 3, 4, 5, 6, 7, 8, 9, 10, 11, 12, 13, 14, 15, 17, 18] [16] rfl (by kernel_rfl) (by kernel_rfl) (by kernel_rfl) rfl rfl (wants_none rfl) rfl (ex_move rfl) ?_
          refine JP_take (i := 9) [0, 1, 2, 3, 4, 5, 6, 7, 8, 9, 10, 11, 12, 13, 14, 15, 17, 18] [16] rfl (by kernel_rfl) (by kernel_rfl) (by kernel_rfl) rfl rfl (wants_none rfl) rfl (ex_move rfl) ?_
          refine JP_take (i := 10) [0, 1, 2, 3, 4, 5, 6, 7, 8, 9, 10, 11, 12, 13, 14, 15, 17, 18] [16] rfl (by kernel_rfl) (by kernel_rfl) (by kernel_rfl) rfl rfl (wants_none rfl) rfl (ex_move rfl) ?_
          refine JP_take (i := 11) [0, 1, 2, 3, 4, 5, 6, 7, 8, 9, 10, 11, 12, 13, 14, 15, 17, 18] [16] rfl (by kernel_rfl) (by kernel_rfl) (by kernel_rfl) rfl rfl (wants_none rfl) rfl (ex_move rfl) ?_
          refine JP_take (i := 12) [0, 1, 2, 3, 4, 5, 6, 7, 8, 9, 10, 11, 12, 13, 14, 15, 17, 18] [16] rfl (by kernel_rfl) (by kernel_rfl) (by kernel_rfl) rfl rfl (wants_none rfl) rfl (ex_nilCheck_pa 17 rfl rfl) ?_
          refine JP_sq (i := 13) [16] rfl (by kernel_rfl) (by kernel_rfl) (by kernel_rfl) rfl (wants_none rfl) rfl (sq_field_pa 18 (GMulti.at_Tapes _) fi_33_0 rfl rfl rfl) (fun q136 => ?_)
          refine JP_sq (i := 14) [17] rfl (by kernel_rfl) (by kernel_rfl) (by kernel_rfl) rfl (wants_none rfl) rfl (sq_load_pa_o 0 (opens_int _) ti_2 rfl rfl) (fun _ => ?_)
          refine JP_take (i := 15) [0, 1, 2, 3, 4, 5, 6, 7, 8, 9, 10, 11, 12, 13, 14, 15, 16, 18, 19] [17] rfl (by kernel_rfl) (by kernel_rfl) (by kernel_rfl) rfl rfl (wants_none rfl) rfl (ex_sub rfl rfl) ?_
          refine JP_go [0, 1, 2, 3, 4, 5, 6, 7, 8, 9, 10, 11, 12, 13, 14, 15, 16, 18, 19] [17] rfl rfl rfl (fun w139 h1_140 hp138 => ?_)
          refine JD_one (i := 16) (by kernel_rfl) ?_
          refine JO_st rfl (wants_none rfl) rfl (st_buildSlice (vs := [.int .i64 2, .int .i64 y93, .int .i64 y97, .int .i64 y101, .int .i64 (w64 (p0.Tapes - 1))]) ([2, y93, y97, y101, (w64 (p0.Tapes - 1))] : List Int) Try.underlying64 ti_2 zi_2 rfl rfl rfl (fun w hh => ⟨(Rd.mk_int _ _ _), (Rd.mk_int _ _ _), (Rd.mk_int _ _ _), (Rd.mk_int _ _ _), (Rd.mk_int _ _ _), trivial⟩)) (fun _ hk => nomatch hk) (fun b141 => ?_)
          refine JD_bnd fun r142 hr143 => ?_
          refine JD_one (i := 17) (by kernel_rfl) ?_
          refine JO_call rfl (wants_none rfl) rfl Try.call65 rfl (Ca_self (fun _ => rfl) fun w hh => c_spec_l13Go _ w (fun _ hk => hk.elim) _ _ _ _ (hh.ow0 0 rfl) _ hr143) (fun x144 => ?_)
          refine JD_ctx (fun w hh => hh.tokf 1 rfl rfl) (tokf_owns (i := 1) rfl) ?_
          refine JD_ctx (fun w hh => hh.sub_rd 2 rfl (hh.pr 1 rfl)) (fun _ hb => hb) ?_
          refine JD_ctx (fun w hh => hh.sub_tkn 1 rfl (hh.pr 2 rfl)) (tkn_owns (i := 1) rfl) ?_
          refine JD_one (i := 18) (by kernel_rfl) ?_
          refine JO_sk rfl (wants_none rfl) (sk_store_bx' 21 ti_96 rfl rfl (fun w hh => (cv_aggs ⟨cv_bool, cv_int, cv_int, (hh.cv 0 rfl), trivial⟩)) rfl rfl rfl rfl) (sub_bx 0 rfl) ?_
          refine JD_done (by kernel_rfl) ?_
          refine N_then ?_
          refine J_ret ?_
          refine N_block_ret ?_
          refine N_then_ret ?_
          exact N_ret1 rfl (rv_cell 21 rfl rfl ti_96 rfl) (fun w hh => ⟨(x144, (((.slice (some ⟨b141, 0, none⟩) 5 5) : Value).ownBlock.toList ++ [])), rfl, hh.sel [1] rfl⟩)
      · refine J_seq ?_
        refine J_region ?_
        refine JL_q (wants_none rfl) rfl (ex_eql rfl rfl) ?_
        refine JL_q (wants_none rfl) rfl (ex_assign rfl) ?_
        refine JL_nil ?_
        refine N_then ?_
        refine J_if rfl (fun h145 => ?_) (fun h145 => ?_)
        · refine J_seq ?_
          refine J_region ?_
          refine JL_q (wants_none rfl) rfl (ex_move rfl) ?_
          refine JL_q (wants_none rfl) rfl (ex_nilCheck_pa 10 rfl rfl) ?_
          refine JL_st (wants_none rfl) rfl (st_field_pa 10 (GMulti.at_Rules _) fi_33_3 rfl rfl rfl) (fun q146 => ?_)
          refine JL_st (wants_none rfl) rfl (st_load_pa_o 0 (opens_sl _) ti_31 rfl rfl) (fun v147 => ?_)
          refine JL_q (wants_none rfl) rfl (ex_move rfl) ?_
          refine JL_bnd fun y148 hy149 => ?_
          refine JL_st (wants_none rfl) rfl (st_index 0 Try.underlying31 ti_69 rfl rfl rfl hy149) (fun q150 => ?_)
          refine JL_st (wants_none rfl) rfl (st_field_pt 0 (GMultiRule.at_Move _) fi_69_3 rfl rfl rfl) (fun q151 => ?_)
          refine JL_st (wants_none rfl) rfl (st_load_pt_o 0 (opens_sl _) ti_64 rfl rfl) (fun v152 => ?_)
          refine JL_q (wants_none rfl) rfl (ex_move rfl) ?_
          refine JL_bnd fun y153 hy154 => ?_
          refine JL_st (wants_none rfl) rfl (st_index 0 Try.underlying64 ti_2 rfl rfl rfl hy154) (fun q155 => ?_)
          refine JL_st (wants_none rfl) rfl (st_load_pt_o 0 (opens_int _) ti_2 rfl rfl) (fun _ => ?_)
          refine JL_q (wants_none rfl) rfl (ex_assign rfl) ?_
          refine JL_nil ?_
          refine N_then ?_
          refine J_seq ?_
          refine J_seq ?_
          refine J_region ?_
          refine JL_q (wants_none rfl) rfl (ex_move rfl) ?_
          refine JL_bnd fun y157 hy158 => ?_
          refine JL_st (wants_none rfl) rfl (st_index 15 Try.underlying64 ti_2 rfl rfl rfl hy158) (fun q159 => ?_)
          refine JL_st (wants_none rfl) rfl (st_load_pt_o 0 (opens_int _) ti_2 rfl rfl) (fun _ => ?_)
          refine JL_q (wants_none rfl) rfl (ex_gtr rfl rfl) ?_
          refine JL_nil ?_
          refine N_then ?_
          refine J_if rfl (fun h161 => ?_) (fun h161 => ?_)
          · refine J_seq ?_
            refine J_region ?_
            refine JL_q (wants_none rfl) rfl (ex_move rfl) ?_
            refine JL_q (wants_none rfl) rfl (ex_move rfl) ?_
            refine JL_q (wants_none rfl) rfl (ex_neg rfl) ?_
            refine JL_q (wants_none rfl) rfl (ex_move rfl) ?_
            refine JL_q (wants_none rfl) rfl (ex_move rfl) ?_
            refine JL_q (wants_none rfl) rfl (ex_move rfl) ?_
            refine JL_q (wants_none rfl) rfl (ex_move rfl) ?_
            refine JL_bnd fun y162 hy163 => ?_
            refine JL_st (wants_none rfl) rfl (st_index 16 Try.underlying64 ti_2 rfl rfl rfl hy163) (fun q164 => ?_)
            refine JL_st (wants_none rfl) rfl (st_load_pt_o 0 (opens_int _) ti_2 rfl rfl) (fun _ => ?_)
            refine JL_q (wants_none rfl) rfl (ex_sub rfl rfl) ?_
            refine JL_st (wants_none rfl) rfl (st_buildSlice (vs := [.int .i64 2, .int .i64 y93, .int .i64 y97, .int .i64 y101, .int .i64 (w64 (y162 - 1))]) ([2, y93, y97, y101, (w64 (y162 - 1))] : List Int) Try.underlying64 ti_2 zi_2 rfl rfl rfl (fun w hh => ⟨(Rd.mk_int _ _ _), (Rd.mk_int _ _ _), (Rd.mk_int _ _ _), (Rd.mk_int _ _ _), (Rd.mk_int _ _ _), trivial⟩)) (fun b166 => ?_)
            refine JL_bnd fun r167 hr168 => ?_
            refine JL_call (wants_none rfl) rfl Try.call65 rfl (Ca_self (fun _ => rfl) fun w hh => c_spec_l13Go _ w (fun _ hk => hk.elim) _ _ _ _ (hh.ow0 0 rfl) _ hr168) (fun x169 => ?_)
            refine JL_ctx (fun w hh => hh.tokf 1 rfl rfl) ?_
            refine JL_ctx (fun w hh => hh.sub_rd 2 rfl (hh.pr 1 rfl)) ?_
            refine JL_ctx (fun w hh => hh.sub_tkn 1 rfl (hh.pr 2 rfl)) ?_
            refine JL_sk (wants_none rfl) (sk_store_bx' 20 ti_96 rfl rfl (fun w hh => (cv_aggs ⟨cv_bool, cv_int, cv_int, (hh.cv 0 rfl), trivial⟩)) rfl rfl rfl rfl) ?_
            refine JL_nil ?_
            refine N_then ?_
            refine J_ret ?_
            refine N_then_ret ?_
            refine N_block_ret ?_
            refine N_then_ret ?_
            exact N_ret1 rfl (rv_cell 20 rfl rfl ti_96 rfl) (fun w hh => ⟨(x169, (((.slice (some ⟨b166, 0, none⟩) 5 5) : Value).ownBlock.toList ++ [])), rfl, hh.sel [1] rfl⟩)
          · refine J_skip ?_
            refine N_then ?_
            refine J_seq ?_
            refine J_region ?_
            refine JL_q (wants_none rfl) rfl (ex_move rfl) ?_
            refine JL_q (wants_none rfl) rfl (ex_move rfl) ?_
            refine JL_q (wants_none rfl) rfl (ex_move rfl) ?_
            refine JL_q (wants_none rfl) rfl (ex_move rfl) ?_
            refine JL_q (wants_none rfl) rfl (ex_move rfl) ?_
            refine JL_bnd fun r170 hr171 => ?_
            refine JL_call (wants_none rfl) rfl Try.call70 rfl (Ca_self (fun _ => rfl) fun w hh => c_spec_l13After _ w (fun _ hk => hk.elim) _ _ (hh.pa0 17 rfl) _ _ _ _ hr171) (fun x172 => ?_)
            refine JL_bnd fun r173 hr174 => ?_
            refine JL_call (wants_none rfl) rfl Try.call65 rfl (Ca_self (fun _ => rfl) fun w hh => c_spec_l13Go _ w (fun _ hk => hk.elim) _ _ _ _ (hh.ow0 0 rfl) _ hr174) (fun x175 => ?_)
            refine JL_ctx (fun w hh => hh.tokf 1 rfl rfl) ?_
            refine JL_ctx (fun w hh => hh.sub_rd 2 rfl (hh.pr 1 rfl)) ?_
            refine JL_ctx (fun w hh => hh.sub_tkn 1 rfl (hh.pr 2 rfl)) ?_
            refine JL_sk (wants_none rfl) (sk_store_bx' 19 ti_96 rfl rfl (fun w hh => (cv_aggs ⟨cv_bool, cv_int, cv_int, (hh.cv 0 rfl), trivial⟩)) rfl rfl rfl rfl) ?_
            refine JL_nil ?_
            refine N_then ?_
            refine J_ret ?_
            refine N_block_ret ?_
            refine N_then_ret ?_
            exact N_ret1 rfl (rv_cell 19 rfl rfl ti_96 rfl) (fun w hh => ⟨(x175, ((x172 : Value).ownBlock.toList ++ [])), rfl, hh.sel [1] rfl⟩)
        · refine J_skip ?_
          refine N_block ?_
          refine N_then ?_
          refine J_seq ?_
          refine J_seq ?_
          refine J_cut' (S' := Bool) (G' := Unit) (fun s176 _ => [(0, v0_), (2, .int .i64 p2), (6, .pointer (some ⟨b1, 0, none⟩)), (13, .int .i64 y93), (14, .int .i64 y97), (15, .int .i64 y101), (207, .bool s176)]) (fun s176 _ => [.pa v0_ p0, .bx b1 96 [.bool false, .int .i64 0, .int .i64 0, .slice none 0 0]]) ?_ (fun s176 g177 => ?_)
          · refine J_region ?_
            refine JL_q (wants_none rfl) rfl (ex_move rfl) ?_
            refine JL_q (wants_none rfl) rfl (ex_move rfl) ?_
            refine JL_cond (fun h178 => ?_) (fun h178 => ?_)
            · refine JL_q (wants_some rfl rfl rfl h178) rfl (ex_move rfl) ?_
              refine JL_q (wants_some rfl rfl rfl h178) rfl (ex_move rfl) ?_
              refine JL_bnd fun u179 hu180 => ?_
              refine JL_q (wants_some rfl rfl rfl h178) rfl (ex_shr rfl rfl (nneg_le hu180)) ?_
              refine JL_q (wants_some rfl rfl rfl h178) rfl (ex_and rfl rfl) ?_
              refine JL_q (wants_some rfl rfl rfl h178) rfl (ex_eql rfl rfl) ?_
              refine JL_q (wants_none rfl) rfl (ex_pick_true rfl h178 rfl) ?_
              refine JL_nil ?_
              exact N_meet' () ⟨rfl, rfl, rfl, rfl, rfl, rfl, rfl, trivial⟩ [10, 8] rfl rfl
            · refine JL_passed rfl rfl rfl h178 ?_
              refine JL_passed rfl rfl rfl h178 ?_
              refine JL_passed rfl rfl rfl h178 ?_
              refine JL_passed rfl rfl rfl h178 ?_
              refine JL_passed rfl rfl rfl h178 ?_
              refine JL_q (wants_none rfl) rfl (ex_pick_false rfl h178 rfl) ?_
              refine JL_nil ?_
              exact N_meet' () ⟨rfl, rfl, rfl, rfl, rfl, rfl, rfl, trivial⟩ [10, 8] rfl rfl
          · refine N_then ?_
            refine J_if rfl (fun h181 => ?_) (fun h181 => ?_)
            · refine J_seq ?_
              refine J_region ?_
              refine JL_q (wants_none rfl) rfl (ex_move rfl) ?_
              refine JL_q (wants_none rfl) rfl (ex_move rfl) ?_
              refine JL_q (wants_none rfl) rfl (ex_move rfl) ?_
              refine JL_q (wants_none rfl) rfl (ex_move rfl) ?_
              refine JL_bnd fun r182 hr183 => ?_
              refine JL_call (wants_none rfl) rfl Try.call69 rfl (Ca_self (fun _ => rfl) fun w hh => c_spec_l13Put _ w (fun _ hk => hk.elim) _ _ (hh.pa0 0 rfl) _ _ _ _ hr183) (fun x184 => ?_)
              obtain ⟨x184_0, x184_1⟩ := x184
              refine JL_ctx (fun w hh => hh.tkn_rd 0 rfl) ?_
              refine JL_sk (wants_none rfl) (sk_store_bx' 3 ti_96 rfl rfl (fun w hh => (cv_aggs ⟨cv_bool, cv_int, cv_int, (hh.cv 0 rfl), trivial⟩)) rfl rfl rfl rfl) ?_
              refine JL_nil ?_
              refine N_then ?_
              refine J_ret ?_
              refine N_then_ret ?_
              exact N_ret1 rfl (rv_cell 3 rfl rfl ti_96 rfl) (fun w hh => ⟨(x184_0, x184_1), rfl, hh.sel [1] rfl⟩)
            · refine J_skip ?_
              refine N_then ?_
              refine J_seq ?_
              refine J_region ?_
              refine JL_q (wants_none rfl) rfl (ex_move rfl) ?_
              refine JL_q (wants_none rfl) rfl (ex_move rfl) ?_
              refine JL_q (wants_none rfl) rfl (ex_move rfl) ?_
              refine JL_q (wants_none rfl) rfl (ex_move rfl) ?_
              refine JL_bnd fun r185 hr186 => ?_
              refine JL_call (wants_none rfl) rfl Try.call71 rfl (Ca_of0 fun w hh => c_spec_l13Before _ w (fun _ hk => hk.elim) _ _ (hh.pa0 0 rfl) _ _ hr186) (fun _ => ?_)
              refine JL_q (wants_none rfl) rfl (ex_move rfl) ?_
              refine JL_st (wants_none rfl) rfl (st_buildSlice (vs := [.int .i64 3, .int .i64 y93, .int .i64 r185, .int .i64 y101]) ([3, y93, r185, y101] : List Int) Try.underlying64 ti_2 zi_2 rfl rfl rfl (fun w hh => ⟨(Rd.mk_int _ _ _), (Rd.mk_int _ _ _), (Rd.mk_int _ _ _), (Rd.mk_int _ _ _), trivial⟩)) (fun b187 => ?_)
              refine JL_bnd fun r188 hr189 => ?_
              refine JL_call (wants_none rfl) rfl Try.call65 rfl (Ca_self (fun _ => rfl) fun w hh => c_spec_l13Go _ w (fun _ hk => hk.elim) _ _ _ _ (hh.ow0 0 rfl) _ hr189) (fun x190 => ?_)
              refine JL_ctx (fun w hh => hh.tokf 1 rfl rfl) ?_
              refine JL_ctx (fun w hh => hh.sub_rd 2 rfl (hh.pr 1 rfl)) ?_
              refine JL_ctx (fun w hh => hh.sub_tkn 1 rfl (hh.pr 2 rfl)) ?_
              refine JL_sk (wants_none rfl) (sk_store_bx' 5 ti_96 rfl rfl (fun w hh => (cv_aggs ⟨cv_bool, cv_int, cv_int, (hh.cv 0 rfl), trivial⟩)) rfl rfl rfl rfl) ?_
              refine JL_nil ?_
              refine N_then ?_
              refine J_ret ?_
              exact N_ret1 rfl (rv_cell 5 rfl rfl ti_96 rfl) (fun w hh => ⟨(x190, (((.slice (some ⟨b187, 0, none⟩) 4 4) : Value).ownBlock.toList ++ [])), rfl, hh.sel [1] rfl⟩)

end Go.Proofs.Ytafjflnnkdbmdaa
