/-
  Each function of the program computes what its plain function says: printed by program. No condition.
-/
import Derived.Test.YtomiabeodgcmcaaFn
import Derived.Test.YtomiabeodgcmcaaInf
import Derived.Test.YtomiabeodgcmcaaCon1
namespace Go.Proofs.Ytomiabeodgcmcaa
open Go Go.Tc Go.Fn
set_option linter.unusedVariables false

set_option maxHeartbeats 40000000 in
theorem c_spec_l00Same (A : Nat → Prop) (w : World) (hA : ∀ k, A k → k < w.heap.size) (v0_ : Value) (p0 : (List Int)) (hp0 : Rd A w v0_ p0) (v1_ : Value) (p1 : (List Int)) (hp1 : Rd A w v1_ p1) (r : Bool) (hr : F_spec_l00Same p0 p1 = some r) :
    Con Try.prog 85 [v0_, v1_] A w (fun x_ : Unit => .bool r) (fun x_ => []) := by
  refine Con_of (v := fun (r : Bool) (x_ : Unit) => .bool r) (fs := fun r x_ => []) Try.func85 rfl Try.ntmps85 rfl (((SH.start hA).start_rd rfl hp0).start_rd rfl hp1) rfl ?_ hr
  unfold F_spec_l00Same
  refine J_seq ?_
  refine J_region ?_
  refine JL_q (wants_none rfl) rfl (ex_assign rfl) ?_
  refine JL_nil ?_
  refine N_then ?_
  refine J_seq ?_
  refine J_seq ?_
  refine J_region ?_
  refine JL_q (wants_none rfl) rfl (ex_move rfl) ?_
  refine JL_q (wants_none rfl) rfl (ex_len_rd 1 Try.underlying66 rfl rfl) ?_
  refine JL_q (wants_none rfl) rfl (ex_move rfl) ?_
  refine JL_q (wants_none rfl) rfl (ex_len_rd 0 Try.underlying66 rfl rfl) ?_
  refine JL_q (wants_none rfl) rfl (ex_neq rfl rfl) ?_
  refine JL_nil ?_
  refine N_then ?_
  refine J_if rfl (fun h1 => ?_) (fun h1 => ?_)
  · refine J_seq ?_
    refine J_region ?_
    refine JL_q (wants_none rfl) rfl (ex_assign rfl) ?_
    refine JL_nil ?_
    refine N_then ?_
    refine J_ret ?_
    refine N_then_ret ?_
    exact N_ret1 rfl (rv_tmp rfl) (fun w hh => ⟨(), rfl, hh.sel [] rfl⟩)
  · refine J_skip ?_
    refine N_then ?_
    refine J_seq ?_
    refine J_seq ?_
    refine J_region ?_
    refine JL_q (wants_none rfl) rfl (ex_assign rfl) ?_
    refine JL_nil ?_
    refine N_then ?_
    refine J_loop' (S := Int) (G := Unit) (F_spec_l00Same_L1 p0 p1) (fun s2 _ => [(0, v0_), (1, v1_), (5, .int .i64 s2)]) (fun s2 _ => [.rd v0_ p0, .rd v1_ p1]) 0 () ⟨rfl, rfl, rfl, trivial⟩ [1, 0] rfl rfl (fun s2 g3 => ?_) (fun s2 g3 => ?_)
    · unfold F_spec_l00Same_L1
      refine J_seq ?_
      refine J_seq ?_
      refine J_region ?_
      refine JL_q (wants_none rfl) rfl (ex_move rfl) ?_
      refine JL_q (wants_none rfl) rfl (ex_move rfl) ?_
      refine JL_q (wants_none rfl) rfl (ex_len_rd 0 Try.underlying66 rfl rfl) ?_
      refine JL_q (wants_none rfl) rfl (ex_lss rfl rfl) ?_
      refine JL_nil ?_
      refine N_then ?_
      refine J_if rfl (fun h4 => ?_) (fun h4 => ?_)
      · refine J_skip ?_
        refine N_then ?_
        refine J_seq ?_
        refine J_block ?_
        refine J_seq ?_
        refine J_draw [] (by kernel_rfl) ?_
        refine JP_take (i := 0) [0, 1] [] rfl (by kernel_rfl) (by kernel_rfl) (by kernel_rfl) rfl rfl (wants_none rfl) rfl (ex_move rfl) ?_
        refine JP_take (i := 1) [0, 1] [] rfl (by kernel_rfl) (by kernel_rfl) (by kernel_rfl) rfl rfl (wants_none rfl) rfl (ex_move rfl) ?_
        refine JP_bnd fun y5 hy6 => ?_
        refine JP_sq (i := 2) [] rfl (by kernel_rfl) (by kernel_rfl) (by kernel_rfl) rfl (wants_none rfl) rfl (sq_index 0 Try.underlying66 ti_2 rfl rfl rfl hy6) (fun q7 => ?_)
        refine JP_sq (i := 3) [] rfl (by kernel_rfl) (by kernel_rfl) (by kernel_rfl) rfl (wants_none rfl) rfl (sq_load_pt_o 0 (opens_int _) ti_2 rfl rfl) (fun _ => ?_)
        refine JP_take (i := 4) [0, 1, 2] [] rfl (by kernel_rfl) (by kernel_rfl) (by kernel_rfl) rfl rfl (wants_none rfl) rfl (ex_move rfl) ?_
        refine JP_take (i := 5) [0, 1, 2] [] rfl (by kernel_rfl) (by kernel_rfl) (by kernel_rfl) rfl rfl (wants_none rfl) rfl (ex_move rfl) ?_
        refine JP_bnd fun y9 hy10 => ?_
        refine JP_sq (i := 6) [] rfl (by kernel_rfl) (by kernel_rfl) (by kernel_rfl) rfl (wants_none rfl) rfl (sq_index 2 Try.underlying66 ti_2 rfl rfl rfl hy10) (fun q11 => ?_)
        refine JP_sq (i := 7) [] rfl (by kernel_rfl) (by kernel_rfl) (by kernel_rfl) rfl (wants_none rfl) rfl (sq_load_pt_o 0 (opens_int _) ti_2 rfl rfl) (fun _ => ?_)
        refine JP_take (i := 8) [0, 1, 2, 3] [] rfl (by kernel_rfl) (by kernel_rfl) (by kernel_rfl) rfl rfl (wants_none rfl) rfl (ex_neq rfl rfl) ?_
        refine JP_go [] [] rfl rfl rfl (fun _ _ _ => ?_)
        refine JD_done (by kernel_rfl) ?_
        refine N_then ?_
        refine J_if rfl (fun h13 => ?_) (fun h13 => ?_)
        · refine J_seq ?_
          refine J_region ?_
          refine JL_q (wants_none rfl) rfl (ex_assign rfl) ?_
          refine JL_nil ?_
          refine N_then ?_
          refine J_ret ?_
          refine N_block_ret ?_
          refine N_then_ret ?_
          refine N_round_ret ?_
          refine N_then_ret ?_
          exact N_ret1 rfl (rv_tmp rfl) (fun w hh => ⟨(), rfl, hh.sel [] rfl⟩)
        · refine J_skip ?_
          refine N_block ?_
          refine N_then ?_
          refine J_region ?_
          refine JL_q (wants_none rfl) rfl (ex_move rfl) ?_
          refine JL_q (wants_none rfl) rfl (ex_add rfl rfl) ?_
          refine JL_q (wants_none rfl) rfl (ex_assign rfl) ?_
          refine JL_nil ?_
          exact N_next' () ⟨rfl, rfl, rfl, trivial⟩ [2, 3] rfl rfl
      · refine J_exit ?_
        refine N_then_exit ?_
        exact N_break' () ⟨rfl, rfl, rfl, trivial⟩ [0, 1] rfl rfl
    · refine N_then ?_
      refine J_seq ?_
      refine J_region ?_
      refine JL_q (wants_none rfl) rfl (ex_assign rfl) ?_
      refine JL_nil ?_
      refine N_then ?_
      refine J_ret ?_
      exact N_ret1 rfl (rv_tmp rfl) (fun w hh => ⟨(), rfl, hh.sel [] rfl⟩)

set_option maxHeartbeats 40000000 in
theorem c_spec_l06RuleOf (A : Nat → Prop) (w : World) (hA : ∀ k, A k → k < w.heap.size) (v0_ : Value) (p0 : GMulti) (hp0 : RdA A w.heap.size w v0_ p0) (p1 : Int) (v2_ : Value) (p2 : (List Int)) (hp2 : Rd A w v2_ p2) (r : Int) (hr : F_spec_l06RuleOf p0 p1 p2 = some r) :
    Con Try.prog 72 [v0_, .int .i64 p1, v2_] A w (fun x_ : Unit => .int .i64 r) (fun x_ => []) := by
  refine Con_of (v := fun (r : Int) (x_ : Unit) => .int .i64 r) (fs := fun r x_ => []) Try.func72 rfl Try.ntmps72 rfl (((SH.start hA).start_pa' rfl hp0).start_rd rfl hp2) rfl ?_ hr
  unfold F_spec_l06RuleOf
  refine J_seq ?_
  refine J_region ?_
  refine JL_q (wants_none rfl) rfl (ex_assign rfl) ?_
  refine JL_nil ?_
  refine N_then ?_
  refine J_seq ?_
  refine J_seq ?_
  refine J_region ?_
  refine JL_q (wants_none rfl) rfl (ex_assign rfl) ?_
  refine JL_nil ?_
  refine N_then ?_
  refine J_loop' (S := Int) (G := Unit) (F_spec_l06RuleOf_L1 p0 p1 p2) (fun s1 _ => [(0, v0_), (1, .int .i64 p1), (2, v2_), (7, .int .i64 s1)]) (fun s1 _ => [.pa v0_ p0, .rd v2_ p2]) 0 () ⟨rfl, rfl, rfl, rfl, trivial⟩ [1, 0] rfl rfl (fun s1 g2 => ?_) (fun s1 g2 => ?_)
  · unfold F_spec_l06RuleOf_L1
    refine J_seq ?_
    refine J_seq ?_
    refine J_region ?_
    refine JL_q (wants_none rfl) rfl (ex_move rfl) ?_
    refine JL_q (wants_none rfl) rfl (ex_move rfl) ?_
    refine JL_q (wants_none rfl) rfl (ex_nilCheck_pa 0 rfl rfl) ?_
    refine JL_st (wants_none rfl) rfl (st_field_pa 0 (GMulti.at_Rules _) fi_37_3 rfl rfl rfl) (fun q3 => ?_)
    refine JL_st (wants_none rfl) rfl (st_load_pa_o 0 (opens_sl _) ti_35 rfl rfl) (fun v4 => ?_)
    refine JL_q (wants_none rfl) rfl (ex_len_rd 0 Try.underlying35 rfl rfl) ?_
    refine JL_q (wants_none rfl) rfl (ex_lss rfl rfl) ?_
    refine JL_nil ?_
    refine N_then ?_
    refine J_if rfl (fun h5 => ?_) (fun h5 => ?_)
    · refine J_skip ?_
      refine N_then ?_
      refine J_seq ?_
      refine J_block ?_
      refine J_seq ?_
      refine J_region ?_
      refine JL_q (wants_none rfl) rfl (ex_move rfl) ?_
      refine JL_q (wants_none rfl) rfl (ex_nilCheck_pa 2 rfl rfl) ?_
      refine JL_st (wants_none rfl) rfl (st_field_pa 2 (GMulti.at_Rules _) fi_37_3 rfl rfl rfl) (fun q6 => ?_)
      refine JL_st (wants_none rfl) rfl (st_load_pa_o 0 (opens_sl _) ti_35 rfl rfl) (fun v7 => ?_)
      refine JL_q (wants_none rfl) rfl (ex_move rfl) ?_
      refine JL_bnd fun y8 hy9 => ?_
      refine JL_st (wants_none rfl) rfl (st_index 0 Try.underlying35 ti_68 rfl rfl rfl hy9) (fun q10 => ?_)
      refine JL_st (wants_none rfl) rfl (st_field_pt 0 (GMultiRule.at_State _) fi_68_0 rfl rfl rfl) (fun q11 => ?_)
      refine JL_st (wants_none rfl) rfl (st_load_pt_o 0 (opens_int _) ti_2 rfl rfl) (fun _ => ?_)
      refine JL_q (wants_none rfl) rfl (ex_move rfl) ?_
      refine JL_q (wants_none rfl) rfl (ex_eql rfl rfl) ?_
      refine JL_q (wants_none rfl) rfl (ex_move rfl) ?_
      refine JL_cond (fun h13 => ?_) (fun h13 => ?_)
      · refine JL_q (wants_some rfl rfl rfl h13) rfl (ex_move rfl) ?_
        refine JL_q (wants_some rfl rfl rfl h13) rfl (ex_nilCheck_pa 6 rfl rfl) ?_
        refine JL_st (wants_some rfl rfl rfl h13) rfl (st_field_pa 6 (GMulti.at_Rules _) fi_37_3 rfl rfl rfl) (fun q14 => ?_)
        refine JL_st (wants_some rfl rfl rfl h13) rfl (st_load_pa_o 0 (opens_sl _) ti_35 rfl rfl) (fun v15 => ?_)
        refine JL_q (wants_some rfl rfl rfl h13) rfl (ex_move rfl) ?_
        refine JL_bnd fun y16 hy17 => ?_
        refine JL_st (wants_some rfl rfl rfl h13) rfl (st_index 0 Try.underlying35 ti_68 rfl rfl rfl hy17) (fun q18 => ?_)
        refine JL_st (wants_some rfl rfl rfl h13) rfl (st_field_pt 0 (GMultiRule.at_Read _) fi_68_1 rfl rfl rfl) (fun q19 => ?_)
        refine JL_st (wants_some rfl rfl rfl h13) rfl (st_load_pt_o 0 (opens_sl _) ti_66 rfl rfl) (fun v20 => ?_)
        refine JL_q (wants_some rfl rfl rfl h13) rfl (ex_move rfl) ?_
        refine JL_bnd fun r21 hr22 => ?_
        refine JL_call (wants_some rfl rfl rfl h13) rfl Try.call85 rfl (Ca_of0 fun w hh => c_spec_l00Same _ w (fun _ hk => hk.elim) _ _ (hh.rd0 0 rfl) _ _ (hh.rd0 12 rfl) _ hr22) (fun _ => ?_)
        refine JL_q (wants_none rfl) rfl (ex_pick_true rfl h13 rfl) ?_
        refine JL_nil ?_
        refine N_then ?_
        refine J_if rfl (fun h23 => ?_) (fun h23 => ?_)
        · refine J_seq ?_
          refine J_region ?_
          refine JL_q (wants_none rfl) rfl (ex_move rfl) ?_
          refine JL_q (wants_none rfl) rfl (ex_assign rfl) ?_
          refine JL_nil ?_
          refine N_then ?_
          refine J_ret ?_
          refine N_block_ret ?_
          refine N_then_ret ?_
          refine N_round_ret ?_
          refine N_then_ret ?_
          exact N_ret1 rfl (rv_tmp rfl) (fun w hh => ⟨(), rfl, hh.sel [] rfl⟩)
        · refine J_skip ?_
          refine N_block ?_
          refine N_then ?_
          refine J_region ?_
          refine JL_q (wants_none rfl) rfl (ex_move rfl) ?_
          refine JL_q (wants_none rfl) rfl (ex_add rfl rfl) ?_
          refine JL_q (wants_none rfl) rfl (ex_assign rfl) ?_
          refine JL_nil ?_
          exact N_next' () ⟨rfl, rfl, rfl, rfl, trivial⟩ [11, 12] rfl rfl
      · refine JL_passed rfl rfl rfl h13 ?_
        refine JL_passed rfl rfl rfl h13 ?_
        refine JL_passed rfl rfl rfl h13 ?_
        refine JL_passed rfl rfl rfl h13 ?_
        refine JL_passed rfl rfl rfl h13 ?_
        refine JL_passed rfl rfl rfl h13 ?_
        refine JL_passed rfl rfl rfl h13 ?_
        refine JL_passed rfl rfl rfl h13 ?_
        refine JL_passed rfl rfl rfl h13 ?_
        refine JL_passed rfl rfl rfl h13 ?_
        refine JL_q (wants_none rfl) rfl (ex_pick_false rfl h13 rfl) ?_
        refine JL_nil ?_
        refine N_then ?_
        refine J_if_false rfl rfl ?_
        refine J_skip ?_
        refine N_block ?_
        refine N_then ?_
        refine J_region ?_
        refine JL_q (wants_none rfl) rfl (ex_move rfl) ?_
        refine JL_q (wants_none rfl) rfl (ex_add rfl rfl) ?_
        refine JL_q (wants_none rfl) rfl (ex_assign rfl) ?_
        refine JL_nil ?_
        exact N_next' () ⟨rfl, rfl, rfl, rfl, trivial⟩ [6, 7] rfl rfl
    · refine J_exit ?_
      refine N_then_exit ?_
      exact N_break' () ⟨rfl, rfl, rfl, rfl, trivial⟩ [2, 3] rfl rfl
  · refine N_then ?_
    refine J_seq ?_
    refine J_region ?_
    refine JL_q (wants_none rfl) rfl (ex_assign rfl) ?_
    refine JL_nil ?_
    refine N_then ?_
    refine J_ret ?_
    exact N_ret1 rfl (rv_tmp rfl) (fun w hh => ⟨(), rfl, hh.sel [] rfl⟩)

set_option maxHeartbeats 40000000 in
theorem c_spec_l06Rule (A : Nat → Prop) (w : World) (hA : ∀ k, A k → k < w.heap.size) (v0_ : Value) (p0 : GMulti) (hp0 : RdA A w.heap.size w v0_ p0) (v1_ : Value) (p1 : GMultiConfig) (hp1 : RdA A w.heap.size w v1_ p1) (r : Int) (hr : F_spec_l06Rule p0 p1 = some r) :
    Con Try.prog 46 [v0_, v1_] A w (fun x_ : Unit => .int .i64 r) (fun x_ => []) := by
  refine Con_of (v := fun (r : Int) (x_ : Unit) => .int .i64 r) (fs := fun r x_ => []) Try.func46 rfl Try.ntmps46 rfl (((SH.start hA).start_pa' rfl hp0).start_pa' rfl hp1) rfl ?_ hr
  unfold F_spec_l06Rule
  refine J_seq ?_
  refine J_region ?_
  refine JL_q (wants_none rfl) rfl (ex_assign rfl) ?_
  refine JL_nil ?_
  refine N_then ?_
  refine J_seq ?_
  refine J_region ?_
  refine JL_st (wants_none rfl) rfl (st_buildSlice (vs := []) ([] : List Int) Try.underlying66 ti_2 zi_2 rfl rfl rfl (fun w hh => trivial)) (fun b1 => ?_)
  refine JL_q (wants_none rfl) rfl (ex_assign rfl) ?_
  refine JL_nil ?_
  refine N_then ?_
  refine J_seq ?_
  refine J_seq ?_
  refine J_region ?_
  refine JL_q (wants_none rfl) rfl (ex_assign rfl) ?_
  refine JL_nil ?_
  refine N_then ?_
  refine J_loop' (S := (List Int) × Int) (G := Value) (F_spec_l06Rule_L1 p1) (fun s2 g3 => [(0, v0_), (1, v1_), (5, g3), (6, .int .i64 s2.2)]) (fun s2 g3 => [.pa v0_ p0, .pa v1_ p1, .ow 2 g3 s2.1]) (([] : List Int), 0) (.slice (some ⟨b1, 0, none⟩) 0 0) ⟨rfl, rfl, rfl, rfl, trivial⟩ [2, 1, 0] rfl rfl (fun s2 g3 => ?_) (fun s2 g3 => ?_)
  · unfold F_spec_l06Rule_L1
    refine J_seq ?_
    refine J_seq ?_
    refine J_region ?_
    refine JL_q (wants_none rfl) rfl (ex_move rfl) ?_
    refine JL_q (wants_none rfl) rfl (ex_move rfl) ?_
    refine JL_q (wants_none rfl) rfl (ex_nilCheck_pa 1 rfl rfl) ?_
    refine JL_st (wants_none rfl) rfl (st_field_pa 1 (GMultiConfig.at_Tapes _) fi_32_1 rfl rfl rfl) (fun q4 => ?_)
    refine JL_st (wants_none rfl) rfl (st_load_pa_o 0 (opens_sl _) ti_30 rfl rfl) (fun v5 => ?_)
    refine JL_q (wants_none rfl) rfl (ex_len_rd 0 Try.underlying30 rfl rfl) ?_
    refine JL_q (wants_none rfl) rfl (ex_lss rfl rfl) ?_
    refine JL_nil ?_
    refine N_then ?_
    refine J_if rfl (fun h6 => ?_) (fun h6 => ?_)
    · refine J_skip ?_
      refine N_then ?_
      refine J_seq ?_
      refine J_block ?_
      refine J_region ?_
      refine JL_q (wants_none rfl) rfl (ex_move rfl) ?_
      refine JL_q (wants_none rfl) rfl (ex_move rfl) ?_
      refine JL_q (wants_none rfl) rfl (ex_nilCheck_pa 3 rfl rfl) ?_
      refine JL_st (wants_none rfl) rfl (st_field_pa 3 (GMultiConfig.at_Tapes _) fi_32_1 rfl rfl rfl) (fun q7 => ?_)
      refine JL_st (wants_none rfl) rfl (st_load_pa_o 0 (opens_sl _) ti_30 rfl rfl) (fun v8 => ?_)
      refine JL_q (wants_none rfl) rfl (ex_move rfl) ?_
      refine JL_bnd fun y9 hy10 => ?_
      refine JL_st (wants_none rfl) rfl (st_index 0 Try.underlying30 ti_91 rfl rfl rfl hy10) (fun q11 => ?_)
      refine JL_bnd fun r12 hr13 => ?_
      refine JL_call (wants_none rfl) rfl Try.call71 rfl (Ca_of0 fun w hh => c_spec_l06Head _ w (fun _ hk => hk.elim) _ _ (hh.pt_pa0 0 rfl) _ hr13) (fun _ => ?_)
      refine JL_st (wants_none rfl) rfl (st_buildSlice (vs := [.int .i64 r12]) ([r12] : List Int) Try.underlying66 ti_2 zi_2 rfl rfl rfl (fun w hh => ⟨(Rd.mk_int _ _ _), trivial⟩)) (fun b14 => ?_)
      refine JL_bnd fun z15 hz16 => ?_
      refine JL_st (wants_none rfl) rfl (st_append 8 Try.underlying66 ti_2 zi_2 rfl bi_2 rfl rfl rfl rfl (fun w hh => hh.src_ow 0 rfl) hz16) (fun v17 => ?_)
      refine JL_q (wants_none rfl) rfl (ex_assign rfl) ?_
      refine JL_nil ?_
      refine N_block ?_
      refine N_then ?_
      refine J_region ?_
      refine JL_q (wants_none rfl) rfl (ex_move rfl) ?_
      refine JL_q (wants_none rfl) rfl (ex_add rfl rfl) ?_
      refine JL_q (wants_none rfl) rfl (ex_assign rfl) ?_
      refine JL_nil ?_
      exact N_next' v17 ⟨rfl, rfl, rfl, rfl, trivial⟩ [6, 7, 8] rfl rfl
    · refine J_exit ?_
      refine N_then_exit ?_
      exact N_break' g3 ⟨rfl, rfl, rfl, rfl, trivial⟩ [2, 3, 4] rfl rfl
  · refine N_then ?_
    refine J_seq ?_
    refine J_region ?_
    refine JL_q (wants_none rfl) rfl (ex_move rfl) ?_
    refine JL_q (wants_none rfl) rfl (ex_move rfl) ?_
    refine JL_q (wants_none rfl) rfl (ex_nilCheck_pa 1 rfl rfl) ?_
    refine JL_st (wants_none rfl) rfl (st_field_pa 1 (GMultiConfig.at_State _) fi_32_0 rfl rfl rfl) (fun q18 => ?_)
    refine JL_st (wants_none rfl) rfl (st_load_pa_o 0 (opens_int _) ti_2 rfl rfl) (fun _ => ?_)
    refine JL_q (wants_none rfl) rfl (ex_move rfl) ?_
    refine JL_bnd fun r20 hr21 => ?_
    refine JL_call (wants_none rfl) rfl Try.call72 rfl (Ca_of0 fun w hh => c_spec_l06RuleOf _ w (fun _ hk => hk.elim) _ _ (hh.pa0 1 rfl) _ _ _ (hh.ow0 3 rfl) _ hr21) (fun _ => ?_)
    refine JL_q (wants_none rfl) rfl (ex_assign rfl) ?_
    refine JL_nil ?_
    refine N_then ?_
    refine J_ret ?_
    exact N_ret1 rfl (rv_tmp rfl) (fun w hh => ⟨(), rfl, hh.sel [] rfl⟩)

set_option maxHeartbeats 40000000 in
theorem c_spec_l00Own (A : Nat → Prop) (w : World) (hA : ∀ k, A k → k < w.heap.size) (v0_ : Value) (p0 : (List Int)) (hp0 : Rd A w v0_ p0) (r : (List Int)) (hr : F_spec_l00Own p0 = some r) :
    Con Try.prog 70 [v0_] A w (fun x_ : Value => x_) (fun x_ => [.ow 2 x_ r]) := by
  refine Con_of (v := fun (r : (List Int)) (x_ : Value) => x_) (fs := fun r x_ => [.ow 2 x_ r]) Try.func70 rfl Try.ntmps70 rfl ((SH.start hA).start_rd rfl hp0) rfl ?_ hr
  unfold F_spec_l00Own
  refine J_seq ?_
  refine J_region ?_
  refine JL_q (wants_none rfl) rfl (ex_assign rfl) ?_
  refine JL_nil ?_
  refine N_then ?_
  refine J_seq ?_
  refine J_region ?_
  refine JL_st (wants_none rfl) rfl (st_buildSlice (vs := []) ([] : List Int) Try.underlying66 ti_2 zi_2 rfl rfl rfl (fun w hh => trivial)) (fun b1 => ?_)
  refine JL_q (wants_none rfl) rfl (ex_move rfl) ?_
  refine JL_bnd fun z2 hz3 => ?_
  refine JL_st (wants_none rfl) rfl (st_append 0 Try.underlying66 ti_2 zi_2 rfl bi_2 rfl rfl rfl rfl (fun w hh => hh.src_rd 1 rfl) hz3) (fun v4 => ?_)
  refine JL_q (wants_none rfl) rfl (ex_assign rfl) ?_
  refine JL_nil ?_
  refine N_then ?_
  refine J_ret ?_
  exact N_ret1 rfl (rv_tmp rfl) (fun w hh => ⟨v4, rfl, hh.sel [0] rfl⟩)

set_option maxHeartbeats 40000000 in
theorem c_spec_l02Trim (A : Nat → Prop) (w : World) (hA : ∀ k, A k → k < w.heap.size) (v0_ : Value) (p0 : (List Int)) (hp0 : Rd A w v0_ p0) (r : (List Int)) (hr : F_spec_l02Trim p0 = some r) :
    Con Try.prog 86 [v0_] A w (fun x_ : Value => x_) (fun x_ => [.pr (Sub v0_ p0 x_ r)]) := by
  refine Con_of (v := fun (r : (List Int)) (x_ : Value) => x_) (fs := fun r x_ => [.pr (Sub v0_ p0 x_ r)]) Try.func86 rfl Try.ntmps86 rfl ((SH.start hA).start_rd rfl hp0) rfl ?_ hr
  unfold F_spec_l02Trim
  refine J_seq ?_
  refine J_region ?_
  refine JL_q (wants_none rfl) rfl (ex_assign rfl) ?_
  refine JL_nil ?_
  refine N_then ?_
  refine J_seq ?_
  refine J_region ?_
  refine JL_q (wants_none rfl) rfl (ex_move rfl) ?_
  refine JL_q (wants_none rfl) rfl (ex_len_rd 0 Try.underlying66 rfl rfl) ?_
  refine JL_q (wants_none rfl) rfl (ex_assign rfl) ?_
  refine JL_nil ?_
  refine N_then ?_
  refine J_seq ?_
  refine J_loop' (S := Int) (G := Unit) (F_spec_l02Trim_L1 p0) (fun s1 _ => [(0, v0_), (3, .int .i64 s1)]) (fun s1 _ => [.rd v0_ p0]) (p0.length : Int) () ⟨rfl, rfl, trivial⟩ [0] rfl rfl (fun s1 g2 => ?_) (fun s1 g2 => ?_)
  · unfold F_spec_l02Trim_L1
    refine J_seq ?_
    refine J_seq ?_
    refine J_region ?_
    refine JL_q (wants_none rfl) rfl (ex_move rfl) ?_
    refine JL_q (wants_none rfl) rfl (ex_gtr rfl rfl) ?_
    refine JL_q (wants_none rfl) rfl (ex_move rfl) ?_
    refine JL_cond (fun h3 => ?_) (fun h3 => ?_)
    · refine JL_q (wants_some rfl rfl rfl h3) rfl (ex_move rfl) ?_
      refine JL_q (wants_some rfl rfl rfl h3) rfl (ex_move rfl) ?_
      refine JL_q (wants_some rfl rfl rfl h3) rfl (ex_sub rfl rfl) ?_
      refine JL_bnd fun y4 hy5 => ?_
      refine JL_st (wants_some rfl rfl rfl h3) rfl (st_index 0 Try.underlying66 ti_2 rfl rfl rfl hy5) (fun q6 => ?_)
      refine JL_st (wants_some rfl rfl rfl h3) rfl (st_load_pt_o 0 (opens_int _) ti_2 rfl rfl) (fun _ => ?_)
      refine JL_q (wants_some rfl rfl rfl h3) rfl (ex_eql rfl rfl) ?_
      refine JL_q (wants_none rfl) rfl (ex_pick_true rfl h3 rfl) ?_
      refine JL_nil ?_
      refine N_then ?_
      refine J_if rfl (fun h8 => ?_) (fun h8 => ?_)
      · refine J_skip ?_
        refine N_then ?_
        refine J_block ?_
        refine J_region ?_
        refine JL_q (wants_none rfl) rfl (ex_move rfl) ?_
        refine JL_q (wants_none rfl) rfl (ex_sub rfl rfl) ?_
        refine JL_q (wants_none rfl) rfl (ex_assign rfl) ?_
        refine JL_nil ?_
        refine N_block ?_
        exact N_next' () ⟨rfl, rfl, trivial⟩ [1] rfl rfl
      · refine J_exit ?_
        refine N_then_exit ?_
        exact N_break' () ⟨rfl, rfl, trivial⟩ [1] rfl rfl
    · refine JL_passed rfl rfl rfl h3 ?_
      refine JL_passed rfl rfl rfl h3 ?_
      refine JL_passed rfl rfl rfl h3 ?_
      refine JL_passed rfl rfl rfl h3 ?_
      refine JL_passed rfl rfl rfl h3 ?_
      refine JL_passed rfl rfl rfl h3 ?_
      refine JL_q (wants_none rfl) rfl (ex_pick_false rfl h3 rfl) ?_
      refine JL_nil ?_
      refine N_then ?_
      refine J_if_false rfl rfl ?_
      refine J_exit ?_
      refine N_then_exit ?_
      exact N_break' () ⟨rfl, rfl, trivial⟩ [0] rfl rfl
  · refine N_then ?_
    refine J_seq ?_
    refine J_region ?_
    refine JL_q (wants_none rfl) rfl (ex_move rfl) ?_
    refine JL_q (wants_none rfl) rfl (ex_move rfl) ?_
    refine JL_bnd fun z9 hz10 => ?_
    refine JL_st (wants_none rfl) rfl (st_slice_sub 0 Try.underlying66 ti_2 rfl rfl rfl rfl hz10) (fun v11 => ?_)
    refine JL_q (wants_none rfl) rfl (ex_assign rfl) ?_
    refine JL_nil ?_
    refine N_then ?_
    refine J_ret ?_
    refine N_ctx (fun w hh => hh.cons_pr (p := Sub v0_ p0 v11 z9) (hh.pr 1 rfl)) ?_
    exact N_ret1 rfl (rv_tmp rfl) (fun w hh => ⟨v11, rfl, hh.sel [0] rfl⟩)

set_option maxHeartbeats 40000000 in
theorem c_spec_l06Trim (A : Nat → Prop) (w : World) (hA : ∀ k, A k → k < w.heap.size) (v0_ : Value) (p0 : (List Int)) (hp0 : Rd A w v0_ p0) (r : (List Int)) (hr : F_spec_l06Trim p0 = some r) :
    Con Try.prog 75 [v0_] A w (fun x_ : Value => x_) (fun x_ => [.ow 2 x_ r]) := by
  refine Con_of (v := fun (r : (List Int)) (x_ : Value) => x_) (fs := fun r x_ => [.ow 2 x_ r]) Try.func75 rfl Try.ntmps75 rfl ((SH.start hA).start_rd rfl hp0) rfl ?_ hr
  unfold F_spec_l06Trim
  refine J_seq ?_
  refine J_region ?_
  refine JL_q (wants_none rfl) rfl (ex_assign rfl) ?_
  refine JL_nil ?_
  refine N_then ?_
  refine J_seq ?_
  refine J_region ?_
  refine JL_q (wants_none rfl) rfl (ex_move rfl) ?_
  refine JL_bnd fun r1 hr2 => ?_
  refine JL_call (wants_none rfl) rfl Try.call86 rfl (Ca_self (fun _ => rfl) fun w hh => c_spec_l02Trim _ w (fun _ hk => hk.elim) _ _ (hh.rd0 0 rfl) _ hr2) (fun x3 => ?_)
  refine JL_ctx (fun w hh => hh.sub_rd 1 rfl (hh.pr 0 rfl)) ?_
  refine JL_bnd fun r4 hr5 => ?_
  refine JL_call (wants_none rfl) rfl Try.call70 rfl (Ca_self (fun _ => rfl) fun w hh => c_spec_l00Own _ w (fun _ hk => hk.elim) _ _ (hh.rd0 0 rfl) _ hr5) (fun x6 => ?_)
  refine JL_q (wants_none rfl) rfl (ex_assign rfl) ?_
  refine JL_nil ?_
  refine N_then ?_
  refine J_ret ?_
  exact N_ret1 rfl (rv_tmp rfl) (fun w hh => ⟨x6, rfl, hh.sel [0] rfl⟩)

set_option maxHeartbeats 40000000 in
theorem c_spec_l06Tape (A : Nat → Prop) (w : World) (hA : ∀ k, A k → k < w.heap.size) (v0_ : Value) (p0 : GTape) (hp0 : RdA A w.heap.size w v0_ p0) (p1 : Int) (p2 : Int) (r : GTape) (hr : F_spec_l06Tape p0 p1 p2 = some r) :
    Con Try.prog 54 [v0_, .int .i64 p1, .int .i64 p2] A w (fun x_ : Value × Value => .agg #[x_.1, x_.2]) (fun x_ => [.ow 2 x_.1 r.Left, .ow 2 x_.2 r.Right]) := by
  refine Con_of (v := fun (r : GTape) (x_ : Value × Value) => .agg #[x_.1, x_.2]) (fs := fun r x_ => [.ow 2 x_.1 r.Left, .ow 2 x_.2 r.Right]) Try.func54 rfl Try.ntmps54 rfl ((SH.start hA).start_pa' rfl hp0) rfl ?_ hr
  unfold F_spec_l06Tape
  refine J_seq ?_
  refine J_region ?_
  refine JL_st (wants_none rfl) rfl (st_alloc zi_91 rfl) (fun b1 => ?_)
  refine JL_nil ?_
  refine N_then ?_
  refine J_seq ?_
  refine J_region ?_
  refine JL_q (wants_none rfl) rfl (ex_move rfl) ?_
  refine JL_st (wants_none rfl) rfl (st_buildSlice (vs := [.int .i64 p1]) ([p1] : List Int) Try.underlying66 ti_2 zi_2 rfl rfl rfl (fun w hh => ⟨(Rd.mk_int _ _ _), trivial⟩)) (fun b2 => ?_)
  refine JL_q (wants_none rfl) rfl (ex_assign rfl) ?_
  refine JL_nil ?_
  refine N_then ?_
  refine J_seq ?_
  refine J_cut' (S' := (List Int)) (G' := Value) (fun s3 g4 => [(0, v0_), (1, .int .i64 p1), (2, .int .i64 p2), (6, .pointer (some ⟨b1, 0, none⟩)), (7, g4)]) (fun s3 g4 => [.pa v0_ p0, .bx b1 91 [.slice none 0 0, .slice none 0 0], .ow 2 g4 s3]) ?_ (fun s3 g4 => ?_)
  · refine J_seq ?_
    refine J_region ?_
    refine JL_q (wants_none rfl) rfl (ex_move rfl) ?_
    refine JL_q (wants_none rfl) rfl (ex_nilCheck_pa 2 rfl rfl) ?_
    refine JL_st (wants_none rfl) rfl (st_field_pa 2 (GTape.at_Right _) fi_91_1 rfl rfl rfl) (fun q5 => ?_)
    refine JL_st (wants_none rfl) rfl (st_load_pa_o 0 (opens_sl _) ti_66 rfl rfl) (fun v6 => ?_)
    refine JL_q (wants_none rfl) rfl (ex_len_rd 0 Try.underlying66 rfl rfl) ?_
    refine JL_q (wants_none rfl) rfl (ex_gtr rfl rfl) ?_
    refine JL_nil ?_
    refine N_then ?_
    refine J_if rfl (fun h7 => ?_) (fun h7 => ?_)
    · refine J_region ?_
      refine JL_q (wants_none rfl) rfl (ex_move rfl) ?_
      refine JL_q (wants_none rfl) rfl (ex_move rfl) ?_
      refine JL_q (wants_none rfl) rfl (ex_nilCheck_pa 4 rfl rfl) ?_
      refine JL_st (wants_none rfl) rfl (st_field_pa 4 (GTape.at_Right _) fi_91_1 rfl rfl rfl) (fun q8 => ?_)
      refine JL_st (wants_none rfl) rfl (st_load_pa_o 0 (opens_sl _) ti_66 rfl rfl) (fun v9 => ?_)
      refine JL_bnd fun z10 hz11 => ?_
      refine JL_st (wants_none rfl) rfl (st_slice 0 Try.underlying66 ti_2 rfl rfl rfl rfl hz11) (fun v12 => ?_)
      refine JL_bnd fun z13 hz14 => ?_
      refine JL_st (wants_none rfl) rfl (st_append 5 Try.underlying66 ti_2 zi_2 rfl bi_2 rfl rfl rfl rfl (fun w hh => hh.src_rd 0 rfl) hz14) (fun v15 => ?_)
      refine JL_q (wants_none rfl) rfl (ex_assign rfl) ?_
      refine JL_nil ?_
      exact N_meet' v15 ⟨rfl, rfl, rfl, rfl, rfl, trivial⟩ [7, 6, 5] rfl rfl
    · refine J_skip ?_
      exact N_meet' (.slice (some ⟨b2, 0, none⟩) 1 1) ⟨rfl, rfl, rfl, rfl, rfl, trivial⟩ [4, 3, 2] rfl rfl
  · refine N_then ?_
    refine J_seq ?_
    refine J_region ?_
    refine JL_q (wants_none rfl) rfl (ex_move rfl) ?_
    refine JL_q (wants_none rfl) rfl (ex_nilCheck_pa 0 rfl rfl) ?_
    refine JL_st (wants_none rfl) rfl (st_field_pa 0 (GTape.at_Left _) fi_91_0 rfl rfl rfl) (fun q16 => ?_)
    refine JL_st (wants_none rfl) rfl (st_load_pa_o 0 (opens_sl _) ti_66 rfl rfl) (fun v17 => ?_)
    refine JL_bnd fun r18 hr19 => ?_
    refine JL_call (wants_none rfl) rfl Try.call70 rfl (Ca_self (fun _ => rfl) fun w hh => c_spec_l00Own _ w (fun _ hk => hk.elim) _ _ (hh.rd0 0 rfl) _ hr19) (fun x20 => ?_)
    refine JL_q (wants_none rfl) rfl (ex_assign rfl) ?_
    refine JL_nil ?_
    refine N_then ?_
    refine J_seq ?_
    refine J_seq ?_
    refine J_region ?_
    refine JL_q (wants_none rfl) rfl (ex_move rfl) ?_
    refine JL_nil ?_
    refine N_then ?_
    refine J_block ?_
    refine J_seq ?_
    refine J_region ?_
    refine JL_q (wants_none rfl) rfl (ex_eql rfl rfl) ?_
    refine JL_q (wants_none rfl) rfl (ex_assign rfl) ?_
    refine JL_nil ?_
    refine N_then ?_
    refine J_if rfl (fun h21 => ?_) (fun h21 => ?_)
    · refine J_seq ?_
      refine J_region ?_
      refine JL_q (wants_none rfl) rfl (ex_move rfl) ?_
      refine JL_st (wants_none rfl) rfl (st_buildSlice (vs := [.int .i64 p1]) ([p1] : List Int) Try.underlying66 ti_2 zi_2 rfl rfl rfl (fun w hh => ⟨(Rd.mk_int _ _ _), trivial⟩)) (fun b22 => ?_)
      refine JL_q (wants_none rfl) rfl (ex_move rfl) ?_
      refine JL_bnd fun z23 hz24 => ?_
      refine JL_st (wants_none rfl) rfl (st_append 0 Try.underlying66 ti_2 zi_2 rfl bi_2 rfl rfl rfl rfl (fun w hh => hh.src_ow 1 rfl) hz24) (fun v25 => ?_)
      refine JL_q (wants_none rfl) rfl (ex_assign rfl) ?_
      refine JL_nil ?_
      refine N_then ?_
      refine J_region ?_
      refine JL_q (wants_none rfl) rfl (ex_move rfl) ?_
      refine JL_bnd fun z26 hz27 => ?_
      refine JL_st (wants_none rfl) rfl (st_slice_bor 6 Try.underlying66 ti_2 rfl rfl rfl rfl hz27) (fun v28 => ?_)
      refine JL_q (wants_none rfl) rfl (ex_assign rfl) ?_
      refine JL_nil ?_
      refine N_block ?_
      refine N_then ?_
      refine J_seq ?_
      refine J_region ?_
      refine JL_q (wants_none rfl) rfl (ex_move rfl) ?_
      refine JL_bnd fun r29 hr30 => ?_
      refine JL_call (wants_none rfl) rfl Try.call75 rfl (Ca_self (fun _ => rfl) fun w hh => c_spec_l06Trim _ w (fun _ hk => hk.elim) _ _ (hh.ow0 1 rfl) _ hr30) (fun x31 => ?_)
      refine JL_q (wants_none rfl) rfl (ex_move rfl) ?_
      refine JL_bnd fun r32 hr33 => ?_
      refine JL_call (wants_none rfl) rfl Try.call75 rfl (Ca_self (fun _ => rfl) fun w hh => c_spec_l06Trim _ w (fun _ hk => hk.elim) _ _ ((hh.pr 1 rfl).2 _ _ (hh.ow0 8 rfl)) _ hr33) (fun x34 => ?_)
      refine JL_q (wants_none rfl) rfl (ex_build si_91 rfl (.cons fi_91_0 rfl rfl (.cons fi_91_1 rfl rfl .nil)) (fun w hh => ⟨(hh.cv_ow 1 rfl), (hh.cv_ow 0 rfl), trivial⟩)) ?_
      refine JL_sk (wants_none rfl) (sk_store_bx' 8 ti_91 rfl rfl (fun w hh => (cv_aggs ⟨(hh.cv_ow 1 rfl), (hh.cv_ow 0 rfl), trivial⟩)) rfl rfl rfl rfl) ?_
      refine JL_nil ?_
      refine N_then ?_
      refine J_ret ?_
      exact N_ret1 rfl (rv_cell 8 rfl rfl ti_91 rfl) (fun w hh => ⟨(x31, x34), rfl, hh.sel [1, 0] rfl⟩)
    · refine J_seq ?_
      refine J_region ?_
      refine JL_q (wants_none rfl) rfl (ex_eql rfl rfl) ?_
      refine JL_q (wants_none rfl) rfl (ex_assign rfl) ?_
      refine JL_nil ?_
      refine N_then ?_
      refine J_if rfl (fun h35 => ?_) (fun h35 => ?_)
      · refine J_seq ?_
        refine J_region ?_
        refine JL_q (wants_none rfl) rfl (ex_assign rfl) ?_
        refine JL_nil ?_
        refine N_then ?_
        refine J_seq ?_
        refine J_seq ?_
        refine J_region ?_
        refine JL_q (wants_none rfl) rfl (ex_move rfl) ?_
        refine JL_q (wants_none rfl) rfl (ex_len_ow 0 Try.underlying66 rfl rfl) ?_
        refine JL_q (wants_none rfl) rfl (ex_gtr rfl rfl) ?_
        refine JL_nil ?_
        refine N_then ?_
        refine J_if rfl (fun h36 => ?_) (fun h36 => ?_)
        · refine J_seq ?_
          refine J_region ?_
          refine JL_q (wants_none rfl) rfl (ex_move rfl) ?_
          refine JL_bnd fun y37 hy38 => ?_
          refine JL_ow_open (v := x20) 0 rfl hy38 ?_; rintro b39 cap40 rfl
          refine JL_q (wants_none rfl) rfl (ex_index_ow 0 Try.underlying66 ti_2 rfl rfl rfl hy38) ?_
          refine JL_q (wants_none rfl) rfl (ex_load_ow_int 0 ti_2 rfl rfl hy38) ?_
          refine JL_q (wants_none rfl) rfl (ex_assign rfl) ?_
          refine JL_nil ?_
          refine N_then ?_
          refine J_region ?_
          refine JL_q (wants_none rfl) rfl (ex_move rfl) ?_
          refine JL_bnd fun z42 hz43 => ?_
          refine JL_st (wants_none rfl) rfl (st_slice_bor 0 Try.underlying66 ti_2 rfl rfl rfl rfl hz43) (fun v44 => ?_)
          refine JL_q (wants_none rfl) rfl (ex_assign rfl) ?_
          refine JL_nil ?_
          refine N_then ?_
          refine J_region ?_
          refine JL_q (wants_none rfl) rfl (ex_move rfl) ?_
          refine JL_st (wants_none rfl) rfl (st_buildSlice (vs := [.int .i64 y37]) ([y37] : List Int) Try.underlying66 ti_2 zi_2 rfl rfl rfl (fun w hh => ⟨(Rd.mk_int _ _ _), trivial⟩)) (fun b45 => ?_)
          refine JL_q (wants_none rfl) rfl (ex_move rfl) ?_
          refine JL_bnd fun z46 hz47 => ?_
          refine JL_st (wants_none rfl) rfl (st_append 0 Try.underlying66 ti_2 zi_2 rfl bi_2 rfl rfl rfl rfl (fun w hh => hh.src_ow 7 rfl) hz47) (fun v48 => ?_)
          refine JL_q (wants_none rfl) rfl (ex_assign rfl) ?_
          refine JL_nil ?_
          refine N_block ?_
          refine N_then ?_
          refine J_seq ?_
          refine J_region ?_
          refine JL_q (wants_none rfl) rfl (ex_move rfl) ?_
          refine JL_bnd fun r49 hr50 => ?_
          refine JL_call (wants_none rfl) rfl Try.call75 rfl (Ca_self (fun _ => rfl) fun w hh => c_spec_l06Trim _ w (fun _ hk => hk.elim) _ _ ((hh.pr 1 rfl).2 _ _ (hh.ow0 2 rfl)) _ hr50) (fun x51 => ?_)
          refine JL_q (wants_none rfl) rfl (ex_move rfl) ?_
          refine JL_bnd fun r52 hr53 => ?_
          refine JL_call (wants_none rfl) rfl Try.call75 rfl (Ca_self (fun _ => rfl) fun w hh => c_spec_l06Trim _ w (fun _ hk => hk.elim) _ _ (hh.ow0 1 rfl) _ hr53) (fun x54 => ?_)
          refine JL_q (wants_none rfl) rfl (ex_build si_91 rfl (.cons fi_91_0 rfl rfl (.cons fi_91_1 rfl rfl .nil)) (fun w hh => ⟨(hh.cv_ow 1 rfl), (hh.cv_ow 0 rfl), trivial⟩)) ?_
          refine JL_sk (wants_none rfl) (sk_store_bx' 8 ti_91 rfl rfl (fun w hh => (cv_aggs ⟨(hh.cv_ow 1 rfl), (hh.cv_ow 0 rfl), trivial⟩)) rfl rfl rfl rfl) ?_
          refine JL_nil ?_
          refine N_then ?_
          refine J_ret ?_
          exact N_ret1 rfl (rv_cell 8 rfl rfl ti_91 rfl) (fun w hh => ⟨(x51, x54), rfl, hh.sel [1, 0] rfl⟩)
        · refine J_skip ?_
          refine N_then ?_
          refine J_region ?_
          refine JL_q (wants_none rfl) rfl (ex_move rfl) ?_
          refine JL_st (wants_none rfl) rfl (st_buildSlice (vs := [.int .i64 0]) ([0] : List Int) Try.underlying66 ti_2 zi_2 rfl rfl rfl (fun w hh => ⟨(Rd.mk_int _ _ _), trivial⟩)) (fun b55 => ?_)
          refine JL_q (wants_none rfl) rfl (ex_move rfl) ?_
          refine JL_bnd fun z56 hz57 => ?_
          refine JL_st (wants_none rfl) rfl (st_append 0 Try.underlying66 ti_2 zi_2 rfl bi_2 rfl rfl rfl rfl (fun w hh => hh.src_ow 6 rfl) hz57) (fun v58 => ?_)
          refine JL_q (wants_none rfl) rfl (ex_assign rfl) ?_
          refine JL_nil ?_
          refine N_block ?_
          refine N_then ?_
          refine J_seq ?_
          refine J_region ?_
          refine JL_q (wants_none rfl) rfl (ex_move rfl) ?_
          refine JL_bnd fun r59 hr60 => ?_
          refine JL_call (wants_none rfl) rfl Try.call75 rfl (Ca_self (fun _ => rfl) fun w hh => c_spec_l06Trim _ w (fun _ hk => hk.elim) _ _ (hh.ow0 1 rfl) _ hr60) (fun x61 => ?_)
          refine JL_q (wants_none rfl) rfl (ex_move rfl) ?_
          refine JL_bnd fun r62 hr63 => ?_
          refine JL_call (wants_none rfl) rfl Try.call75 rfl (Ca_self (fun _ => rfl) fun w hh => c_spec_l06Trim _ w (fun _ hk => hk.elim) _ _ (hh.ow0 1 rfl) _ hr63) (fun x64 => ?_)
          refine JL_q (wants_none rfl) rfl (ex_build si_91 rfl (.cons fi_91_0 rfl rfl (.cons fi_91_1 rfl rfl .nil)) (fun w hh => ⟨(hh.cv_ow 1 rfl), (hh.cv_ow 0 rfl), trivial⟩)) ?_
          refine JL_sk (wants_none rfl) (sk_store_bx' 7 ti_91 rfl rfl (fun w hh => (cv_aggs ⟨(hh.cv_ow 1 rfl), (hh.cv_ow 0 rfl), trivial⟩)) rfl rfl rfl rfl) ?_
          refine JL_nil ?_
          refine N_then ?_
          refine J_ret ?_
          exact N_ret1 rfl (rv_cell 7 rfl rfl ti_91 rfl) (fun w hh => ⟨(x61, x64), rfl, hh.sel [1, 0] rfl⟩)
      · refine J_skip ?_
        refine N_block ?_
        refine N_then ?_
        refine J_seq ?_
        refine J_region ?_
        refine JL_q (wants_none rfl) rfl (ex_move rfl) ?_
        refine JL_bnd fun r65 hr66 => ?_
        refine JL_call (wants_none rfl) rfl Try.call75 rfl (Ca_self (fun _ => rfl) fun w hh => c_spec_l06Trim _ w (fun _ hk => hk.elim) _ _ (hh.ow0 0 rfl) _ hr66) (fun x67 => ?_)
        refine JL_q (wants_none rfl) rfl (ex_move rfl) ?_
        refine JL_bnd fun r68 hr69 => ?_
        refine JL_call (wants_none rfl) rfl Try.call75 rfl (Ca_self (fun _ => rfl) fun w hh => c_spec_l06Trim _ w (fun _ hk => hk.elim) _ _ (hh.ow0 6 rfl) _ hr69) (fun x70 => ?_)
        refine JL_q (wants_none rfl) rfl (ex_build si_91 rfl (.cons fi_91_0 rfl rfl (.cons fi_91_1 rfl rfl .nil)) (fun w hh => ⟨(hh.cv_ow 1 rfl), (hh.cv_ow 0 rfl), trivial⟩)) ?_
        refine JL_sk (wants_none rfl) (sk_store_bx' 6 ti_91 rfl rfl (fun w hh => (cv_aggs ⟨(hh.cv_ow 1 rfl), (hh.cv_ow 0 rfl), trivial⟩)) rfl rfl rfl rfl) ?_
        refine JL_nil ?_
        refine N_then ?_
        refine J_ret ?_
        exact N_ret1 rfl (rv_cell 6 rfl rfl ti_91 rfl) (fun w hh => ⟨(x67, x70), rfl, hh.sel [1, 0] rfl⟩)

set_option maxHeartbeats 40000000 in
theorem c_spec_l06Step (A : Nat → Prop) (w : World) (hA : ∀ k, A k → k < w.heap.size) (v0_ : Value) (p0 : GMulti) (hp0 : RdA A w.heap.size w v0_ p0) (v1_ : Value) (p1 : GMultiConfig) (hp1 : RdA A w.heap.size w v1_ p1) (r : GMultiConfig × Int) (hr : F_spec_l06Step p0 p1 = some r) :
    Con Try.prog 28 [v0_, v1_] A w (fun x_ : Value × List Nat => .tuple #[.agg #[.int .i64 r.1.State, x_.1], .int .i64 r.2]) (fun x_ => [.od 91 x_.1 r.1.Tapes x_.2]) := by
  refine Con_of (v := fun (r : GMultiConfig × Int) (x_ : Value × List Nat) => .tuple #[.agg #[.int .i64 r.1.State, x_.1], .int .i64 r.2]) (fs := fun r x_ => [.od 91 x_.1 r.1.Tapes x_.2]) Try.func28 rfl Try.ntmps28 rfl (((SH.start hA).start_pa' rfl hp0).start_pa' rfl hp1) rfl ?_ hr
  unfold F_spec_l06Step
  refine J_seq ?_
  refine J_region ?_
  refine JL_st (wants_none rfl) rfl (st_alloc zi_32 rfl) (fun b1 => ?_)
  refine JL_q (wants_none rfl) rfl (ex_assign rfl) ?_
  refine JL_nil ?_
  refine N_then ?_
  refine J_seq ?_
  refine J_region ?_
  refine JL_q (wants_none rfl) rfl (ex_move rfl) ?_
  refine JL_q (wants_none rfl) rfl (ex_move rfl) ?_
  refine JL_bnd fun r2 hr3 => ?_
  refine JL_call (wants_none rfl) rfl Try.call46 rfl (Ca_of0 fun w hh => c_spec_l06Rule _ w (fun _ hk => hk.elim) _ _ (hh.pa0 2 rfl) _ _ (hh.pa0 1 rfl) _ hr3) (fun _ => ?_)
  refine JL_q (wants_none rfl) rfl (ex_assign rfl) ?_
  refine JL_nil ?_
  refine N_then ?_
  refine J_seq ?_
  refine J_seq ?_
  refine J_region ?_
  refine JL_q (wants_none rfl) rfl (ex_move rfl) ?_
  refine JL_q (wants_none rfl) rfl (ex_lss rfl rfl) ?_
  refine JL_nil ?_
  refine N_then ?_
  refine J_if rfl (fun h4 => ?_) (fun h4 => ?_)
  · refine J_seq ?_
    refine J_region ?_
    refine JL_q (wants_none rfl) rfl (ex_build si_32 rfl .nil (fun w hh => trivial)) ?_
    refine JL_sk (wants_none rfl) (sk_store_bx' 0 ti_32 rfl rfl (fun w hh => (cv_aggs ⟨cv_int, cv_slice, trivial⟩)) rfl rfl rfl rfl) ?_
    refine JL_q (wants_none rfl) rfl (ex_assign rfl) ?_
    refine JL_nil ?_
    refine N_then ?_
    refine J_ret ?_
    refine N_then_ret ?_
    refine N_ctx (fun w hh => SH.od_nil (α := GTape) 91 hh) ?_
    exact N_ret2 rfl (rv_cell 1 rfl rfl ti_32 rfl) (rv_tmp rfl) (fun w hh => ⟨((.slice none 0 0 : Value), ([] : List Nat)), rfl, hh.sel [0] rfl⟩)
  · refine J_skip ?_
    refine N_then ?_
    refine J_seq ?_
    refine J_region ?_
    refine JL_q (wants_none rfl) rfl (ex_move rfl) ?_
    refine JL_q (wants_none rfl) rfl (ex_nilCheck_pa 2 rfl rfl) ?_
    refine JL_st (wants_none rfl) rfl (st_field_pa 2 (GMulti.at_Rules _) fi_37_3 rfl rfl rfl) (fun q5 => ?_)
    refine JL_st (wants_none rfl) rfl (st_load_pa_o 0 (opens_sl _) ti_35 rfl rfl) (fun v6 => ?_)
    refine JL_q (wants_none rfl) rfl (ex_move rfl) ?_
    refine JL_bnd fun y7 hy8 => ?_
    refine JL_st (wants_none rfl) rfl (st_index 0 Try.underlying35 ti_68 rfl rfl rfl hy8) (fun q9 => ?_)
    refine JL_q (wants_none rfl) rfl (ex_assign rfl) ?_
    refine JL_nil ?_
    refine N_then ?_
    refine J_seq ?_
    refine J_region ?_
    refine JL_q (wants_none rfl) rfl (ex_move rfl) ?_
    refine JL_q (wants_none rfl) rfl (ex_nilCheck_pt 0 rfl rfl) ?_
    refine JL_st (wants_none rfl) rfl (st_field_pt 0 (GMultiRule.at_Next _) fi_68_4 rfl rfl rfl) (fun q10 => ?_)
    refine JL_st (wants_none rfl) rfl (st_load_pt_o 0 (opens_int _) ti_2 rfl rfl) (fun _ => ?_)
    refine JL_q (wants_none rfl) rfl (ex_build si_32 rfl (.cons fi_32_0 rfl rfl .nil) (fun w hh => ⟨cv_int, trivial⟩)) ?_
    refine JL_st (wants_none rfl) rfl (st_alloc zi_32 rfl) (fun b12 => ?_)
    refine JL_sk (wants_none rfl) (sk_store_bx' 0 ti_32 rfl rfl (fun w hh => (cv_aggs ⟨cv_int, cv_slice, trivial⟩)) rfl rfl rfl rfl) ?_
    refine JL_nil ?_
    refine N_then ?_
    refine J_seq ?_
    refine J_seq ?_
    refine J_region ?_
    refine JL_q (wants_none rfl) rfl (ex_assign rfl) ?_
    refine JL_nil ?_
    refine N_then ?_
    refine J_ctx (fun w hh => SH.od_nil (α := GTape) 91 hh) ?_
    refine J_loop' (S := (List GTape) × Int) (G := Value × List Nat) (F_spec_l06Step_L1 p1 y7) (fun s13 g14 => [(1, v1_), (4, .pointer (some ⟨b1, 0, none⟩)), (7, q9), (8, .pointer (some ⟨b12, 0, none⟩)), (9, .int .i64 s13.2)]) (fun s13 g14 => [.pa v1_ p1, .bx b1 32 [.int .i64 0, .slice none 0 0], .pt q9 y7, .od 91 g14.1 s13.1 g14.2, .bx b12 32 [.int .i64 y7.Next, g14.1]]) (([] : (List GTape)), 0) ((.slice none 0 0 : Value), ([] : List Nat)) ⟨rfl, rfl, rfl, rfl, rfl, trivial⟩ [7, 6, 3, 0, 1] rfl rfl (fun s13 g14 => ?_) (fun s13 g14 => ?_)
    · obtain ⟨g14_0, g14_1⟩ := g14
      unfold F_spec_l06Step_L1
      refine J_seq ?_
      refine J_seq ?_
      refine J_region ?_
      refine JL_q (wants_none rfl) rfl (ex_move rfl) ?_
      refine JL_q (wants_none rfl) rfl (ex_move rfl) ?_
      refine JL_q (wants_none rfl) rfl (ex_nilCheck_pa 0 rfl rfl) ?_
      refine JL_st (wants_none rfl) rfl (st_field_pa 0 (GMultiConfig.at_Tapes _) fi_32_1 rfl rfl rfl) (fun q15 => ?_)
      refine JL_st (wants_none rfl) rfl (st_load_pa_o 0 (opens_sl _) ti_30 rfl rfl) (fun v16 => ?_)
      refine JL_q (wants_none rfl) rfl (ex_len_rd 0 Try.underlying30 rfl rfl) ?_
      refine JL_q (wants_none rfl) rfl (ex_lss rfl rfl) ?_
      refine JL_nil ?_
      refine N_then ?_
      refine J_if rfl (fun h17 => ?_) (fun h17 => ?_)
      · refine J_skip ?_
        refine N_then ?_
        refine J_seq ?_
        refine J_block ?_
        refine J_seq ?_
        refine J_draw [] (by kernel_rfl) ?_
        refine JP_take (i := 0) [0, 1, 2, 3, 4, 5, 6] [] rfl (by kernel_rfl) (by kernel_rfl) (by kernel_rfl) rfl rfl (wants_none rfl) rfl (ex_move rfl) ?_
        refine JP_take (i := 1) [0, 1, 2, 3, 4, 5, 6] [] rfl (by kernel_rfl) (by kernel_rfl) (by kernel_rfl) rfl rfl (wants_none rfl) rfl (ex_nilCheck_pa 2 rfl rfl) ?_
        refine JP_sq (i := 2) [] rfl (by kernel_rfl) (by kernel_rfl) (by kernel_rfl) rfl (wants_none rfl) rfl (sq_field_pa 2 (GMultiConfig.at_Tapes _) fi_32_1 rfl rfl rfl) (fun q18 => ?_)
        refine JP_sq (i := 3) [] rfl (by kernel_rfl) (by kernel_rfl) (by kernel_rfl) rfl (wants_none rfl) rfl (sq_load_pa_o 0 (opens_sl _) ti_30 rfl rfl) (fun v19 => ?_)
        refine JP_take (i := 4) [0, 1, 2, 3, 4, 5, 6, 7, 8] [] rfl (by kernel_rfl) (by kernel_rfl) (by kernel_rfl) rfl rfl (wants_none rfl) rfl (ex_move rfl) ?_
        refine JP_bnd fun y20 hy21 => ?_
        refine JP_sq (i := 5) [] rfl (by kernel_rfl) (by kernel_rfl) (by kernel_rfl) rfl (wants_none rfl) rfl (sq_index 0 Try.underlying30 ti_91 rfl rfl rfl hy21) (fun q22 => ?_)
        refine JP_take (i := 6) [0, 1, 2, 3, 4, 5, 6, 7, 8, 9] [] rfl (by kernel_rfl) (by kernel_rfl) (by kernel_rfl) rfl rfl (wants_none rfl) rfl (ex_move rfl) ?_
        refine JP_take (i := 7) [0, 1, 2, 3, 4, 5, 6, 7, 8, 9] [] rfl (by kernel_rfl) (by kernel_rfl) (by kernel_rfl) rfl rfl (wants_none rfl) rfl (ex_nilCheck_pt 7 rfl rfl) ?_
        refine JP_sq (i := 8) [] rfl (by kernel_rfl) (by kernel_rfl) (by kernel_rfl) rfl (wants_none rfl) rfl (sq_field_pt 7 (GMultiRule.at_Write _) fi_68_2 rfl rfl rfl) (fun q23 => ?_)
        refine JP_sq (i := 9) [] rfl (by kernel_rfl) (by kernel_rfl) (by kernel_rfl) rfl (wants_none rfl) rfl (sq_load_pt_o 0 (opens_sl _) ti_66 rfl rfl) (fun v24 => ?_)
        refine JP_take (i := 10) [0, 1, 2, 3, 4, 5, 6, 7, 8, 9, 10, 11] [] rfl (by kernel_rfl) (by kernel_rfl) (by kernel_rfl) rfl rfl (wants_none rfl) rfl (ex_move rfl) ?_
        refine JP_bnd fun y25 hy26 => ?_
        refine JP_sq (i := 11) [] rfl (by kernel_rfl) (by kernel_rfl) (by kernel_rfl) rfl (wants_none rfl) rfl (sq_index 0 Try.underlying66 ti_2 rfl rfl rfl hy26) (fun q27 => ?_)
        refine JP_sq (i := 12) [] rfl (by kernel_rfl) (by kernel_rfl) (by kernel_rfl) rfl (wants_none rfl) rfl (sq_load_pt_o 0 (opens_int _) ti_2 rfl rfl) (fun _ => ?_)
        refine JP_take (i := 13) [0, 1, 2, 3, 4, 5, 6, 7, 8, 9, 10, 11, 12] [] rfl (by kernel_rfl) (by kernel_rfl) (by kernel_rfl) rfl rfl (wants_none rfl) rfl (ex_move rfl) ?_
        refine JP_take (i := 14) [0, 1, 2, 3, 4, 5, 6, 7, 8, 9, 10, 11, 12] [] rfl (by kernel_rfl) (by kernel_rfl) (by kernel_rfl) rfl rfl (wants_none rfl) rfl (ex_nilCheck_pt 10 rfl rfl) ?_
        refine JP_sq (i := 15) [] rfl (by kernel_rfl) (by kernel_rfl) (by kernel_rfl) rfl (wants_none rfl) rfl (sq_field_pt 10 (GMultiRule.at_Move _) fi_68_3 rfl rfl rfl) (fun q29 => ?_)
        refine JP_sq (i := 16) [] rfl (by kernel_rfl) (by kernel_rfl) (by kernel_rfl) rfl (wants_none rfl) rfl (sq_load_pt_o 0 (opens_sl _) ti_66 rfl rfl) (fun v30 => ?_)
        refine JP_take (i := 17) [0, 1, 2, 3, 4, 5, 6, 7, 8, 9, 10, 11, 12, 13, 14] [] rfl (by kernel_rfl) (by kernel_rfl) (by kernel_rfl) rfl rfl (wants_none rfl) rfl (ex_move rfl) ?_
        refine JP_bnd fun y31 hy32 => ?_
        refine JP_sq (i := 18) [] rfl (by kernel_rfl) (by kernel_rfl) (by kernel_rfl) rfl (wants_none rfl) rfl (sq_index 0 Try.underlying66 ti_2 rfl rfl rfl hy32) (fun q33 => ?_)
        refine JP_sq (i := 19) [] rfl (by kernel_rfl) (by kernel_rfl) (by kernel_rfl) rfl (wants_none rfl) rfl (sq_load_pt_o 0 (opens_int _) ti_2 rfl rfl) (fun _ => ?_)
        refine JP_go [0, 1, 2, 3, 4, 5, 6, 7, 8, 9, 10, 11, 12, 13, 14, 15] [] rfl rfl rfl (fun w36 h1_37 hp35 => ?_)
        refine JD_bnd fun r38 hr39 => ?_
        refine JD_two (i := 20) (j := 21) (by kernel_rfl) ?_ ?_
        · refine JO_call rfl (wants_none rfl) rfl Try.call54 rfl (Ca_self (fun _ => rfl) fun w hh => c_spec_l06Tape _ w (fun _ hk => hk.elim) _ _ (hh.pt_pa0 6 rfl) _ _ _ hr39) (fun x40 => ?_)
          obtain ⟨x40_0, x40_1⟩ := x40
          refine JD_one (i := 21) (by kernel_rfl) ?_
          refine JO_st rfl (wants_none rfl) rfl (st_alloc zi_91 rfl) (fun _ hk => nomatch hk) (fun b41 => ?_)
          refine JD_one (i := 22) (by kernel_rfl) ?_
          refine JO_sk2 0 [] [0, 1, 2, 3, 4, 5, 6, 7, 8, 9, 10, 11, 12, 13, 14, 15] [3, 4, 5, 6, 7, 8, 9, 10, 11, 12, 13, 14, 15, 16, 17, 18] rfl rfl rfl rfl rfl rfl (wants_none rfl) (sk_store_bx' 0 ti_91 rfl rfl (fun w hh => (cv_aggs ⟨(hh.cv_ow 1 rfl), (hh.cv_ow 2 rfl), trivial⟩)) rfl rfl rfl rfl) (fun _ hk => hk) ?_
          refine JD_done (by kernel_rfl) ?_
          refine N_then ?_
          refine J_seq ?_
          refine J_seq ?_
          refine J_region ?_
          refine JL_q (wants_none rfl) rfl (ex_fieldAddr fi_91_0 rfl rfl) ?_
          refine JL_q (wants_none rfl) rfl (ex_load_bx 0 ti_66 rfl rfl rfl) ?_
          refine JL_q (wants_none rfl) rfl (ex_len_ow 1 Try.underlying66 rfl rfl) ?_
          refine JL_q (wants_none rfl) rfl (ex_gtr rfl rfl) ?_
          refine JL_q (wants_none rfl) rfl (ex_move rfl) ?_
          refine JL_cond (fun h42 => ?_) (fun h42 => ?_)
          · refine JL_passed rfl rfl rfl h42 ?_
            refine JL_passed rfl rfl rfl h42 ?_
            refine JL_passed rfl rfl rfl h42 ?_
            refine JL_passed rfl rfl rfl h42 ?_
            refine JL_q (wants_none rfl) rfl (ex_pick_true rfl h42 rfl) ?_
            refine JL_nil ?_
            refine N_then ?_
            refine J_if_true rfl rfl ?_
            refine J_seq ?_
            refine J_region ?_
            refine JL_q (wants_none rfl) rfl (ex_build si_32 rfl .nil (fun w hh => trivial)) ?_
            refine JL_sk (wants_none rfl) (sk_store_bx' 15 ti_32 rfl rfl (fun w hh => (cv_aggs ⟨cv_int, cv_slice, trivial⟩)) rfl rfl rfl rfl) ?_
            refine JL_q (wants_none rfl) rfl (ex_assign rfl) ?_
            refine JL_nil ?_
            refine N_then ?_
            refine J_ret ?_
            refine N_then_ret ?_
            refine N_block_ret ?_
            refine N_then_ret ?_
            refine N_round_ret ?_
            refine N_then_ret ?_
            refine N_ctx (fun w hh => SH.od_nil (α := GTape) 91 hh) ?_
            exact N_ret2 rfl (rv_cell 16 rfl rfl ti_32 rfl) (rv_tmp rfl) (fun w hh => ⟨((.slice none 0 0 : Value), ([] : List Nat)), rfl, hh.sel [0] rfl⟩)
          · refine JL_q (wants_some rfl rfl rfl h42) rfl (ex_fieldAddr fi_91_1 rfl rfl) ?_
            refine JL_q (wants_some rfl rfl rfl h42) rfl (ex_load_bx 0 ti_66 rfl rfl rfl) ?_
            refine JL_q (wants_some rfl rfl rfl h42) rfl (ex_len_ow 2 Try.underlying66 rfl rfl) ?_
            refine JL_q (wants_some rfl rfl rfl h42) rfl (ex_gtr rfl rfl) ?_
            refine JL_q (wants_none rfl) rfl (ex_pick_false rfl h42 rfl) ?_
            refine JL_nil ?_
            refine N_then ?_
            refine J_if rfl (fun h43 => ?_) (fun h43 => ?_)
            · refine J_seq ?_
              refine J_region ?_
              refine JL_q (wants_none rfl) rfl (ex_build si_32 rfl .nil (fun w hh => trivial)) ?_
              refine JL_sk (wants_none rfl) (sk_store_bx' 15 ti_32 rfl rfl (fun w hh => (cv_aggs ⟨cv_int, cv_slice, trivial⟩)) rfl rfl rfl rfl) ?_
              refine JL_q (wants_none rfl) rfl (ex_assign rfl) ?_
              refine JL_nil ?_
              refine N_then ?_
              refine J_ret ?_
              refine N_then_ret ?_
              refine N_block_ret ?_
              refine N_then_ret ?_
              refine N_round_ret ?_
              refine N_then_ret ?_
              refine N_ctx (fun w hh => SH.od_nil (α := GTape) 91 hh) ?_
              exact N_ret2 rfl (rv_cell 16 rfl rfl ti_32 rfl) (rv_tmp rfl) (fun w hh => ⟨((.slice none 0 0 : Value), ([] : List Nat)), rfl, hh.sel [0] rfl⟩)
            · refine J_skip ?_
              refine N_then ?_
              refine J_region ?_
              refine JL_q (wants_none rfl) rfl (ex_fieldAddr fi_32_1 rfl rfl) ?_
              refine JL_q (wants_none rfl) rfl (ex_load_bx 18 ti_30 rfl rfl rfl) ?_
              refine JL_q (wants_none rfl) rfl (ex_load_bx_agg 0 ti_91 rfl rfl rfl rfl) ?_
              refine JL_ctx (fun w hh => hh.tokf 1 rfl rfl) ?_
              refine JL_ctx (fun w hh => hh.tokf 3 rfl rfl) ?_
              refine JL_st (wants_none rfl) rfl (st_buildSlice_od (vs := [.agg #[x40_0, x40_1]]) (B := (((x40_0 : Value).ownBlock.toList ++ []) ++ (((x40_1 : Value).ownBlock.toList ++ []) ++ []))) ([r38] : List GTape) [1, 0] Try.underlying30 ti_91 zi_91 rfl rfl rfl rfl rfl (fun w hh => (dwv_cons (GTape.dw (hh.dw 1 rfl) (hh.dw 0 rfl)) dwv_nil))) (fun b44 => ?_)
              refine JL_bnd fun z45 hz46 => ?_
              refine JL_st (wants_none rfl) rfl (st_append_od 20 0 Try.underlying30 ti_91 zi_91 rfl bi_91 rfl rfl rfl rfl rfl rfl hz46) (fun v47 => ?_)
              refine JL_q (wants_none rfl) rfl (ex_fieldAddr fi_32_1 rfl rfl) ?_
              refine JL_sk (wants_none rfl) (sk_store_bx' 21 ti_30 rfl rfl (fun w hh => (hh.cv_od 20 rfl)) rfl rfl rfl rfl) ?_
              refine JL_nil ?_
              refine N_block ?_
              refine N_then ?_
              refine J_region ?_
              refine JL_q (wants_none rfl) rfl (ex_move rfl) ?_
              refine JL_q (wants_none rfl) rfl (ex_add rfl rfl) ?_
              refine JL_q (wants_none rfl) rfl (ex_assign rfl) ?_
              refine JL_nil ?_
              exact N_next' (v47, (g14_1 ++ (((x40_0 : Value).ownBlock.toList ++ []) ++ (((x40_1 : Value).ownBlock.toList ++ []) ++ [])))) ⟨rfl, rfl, rfl, rfl, rfl, trivial⟩ [17, 18, 19, 20, 21] rfl rfl
        · refine JO_st rfl (wants_none rfl) rfl (st_alloc zi_91 rfl) (fun _ hk => nomatch hk) (fun b48 => ?_)
          refine JD_one (i := 20) (by kernel_rfl) ?_
          refine JO_call rfl (wants_none rfl) rfl Try.call54 rfl (Ca_self (fun _ => rfl) fun w hh => c_spec_l06Tape _ w (fun _ hk => hk.elim) _ _ (hh.pt_pa0 7 rfl) _ _ _ hr39) (fun x49 => ?_)
          obtain ⟨x49_0, x49_1⟩ := x49
          refine JD_one (i := 22) (by kernel_rfl) ?_
          refine JO_sk2 2 [] [0, 1, 2, 3, 4, 5, 6, 7, 8, 9, 10, 11, 12, 13, 14, 15] [3, 4, 5, 6, 7, 8, 9, 10, 11, 12, 13, 14, 15, 16, 17, 18] rfl rfl rfl rfl rfl rfl (wants_none rfl) (sk_store_bx' 2 ti_91 rfl rfl (fun w hh => (cv_aggs ⟨(hh.cv_ow 0 rfl), (hh.cv_ow 1 rfl), trivial⟩)) rfl rfl rfl rfl) (fun _ hk => hk) ?_
          refine JD_done (by kernel_rfl) ?_
          refine N_then ?_
          refine J_seq ?_
          refine J_seq ?_
          refine J_region ?_
          refine JL_q (wants_none rfl) rfl (ex_fieldAddr fi_91_0 rfl rfl) ?_
          refine JL_q (wants_none rfl) rfl (ex_load_bx 2 ti_66 rfl rfl rfl) ?_
          refine JL_q (wants_none rfl) rfl (ex_len_ow 0 Try.underlying66 rfl rfl) ?_
          refine JL_q (wants_none rfl) rfl (ex_gtr rfl rfl) ?_
          refine JL_q (wants_none rfl) rfl (ex_move rfl) ?_
          refine JL_cond (fun h50 => ?_) (fun h50 => ?_)
          · refine JL_passed rfl rfl rfl h50 ?_
            refine JL_passed rfl rfl rfl h50 ?_
            refine JL_passed rfl rfl rfl h50 ?_
            refine JL_passed rfl rfl rfl h50 ?_
            refine JL_q (wants_none rfl) rfl (ex_pick_true rfl h50 rfl) ?_
            refine JL_nil ?_
            refine N_then ?_
            refine J_if_true rfl rfl ?_
            refine J_seq ?_
            refine J_region ?_
            refine JL_q (wants_none rfl) rfl (ex_build si_32 rfl .nil (fun w hh => trivial)) ?_
            refine JL_sk (wants_none rfl) (sk_store_bx' 15 ti_32 rfl rfl (fun w hh => (cv_aggs ⟨cv_int, cv_slice, trivial⟩)) rfl rfl rfl rfl) ?_
            refine JL_q (wants_none rfl) rfl (ex_assign rfl) ?_
            refine JL_nil ?_
            refine N_then ?_
            refine J_ret ?_
            refine N_then_ret ?_
            refine N_block_ret ?_
            refine N_then_ret ?_
            refine N_round_ret ?_
            refine N_then_ret ?_
            refine N_ctx (fun w hh => SH.od_nil (α := GTape) 91 hh) ?_
            exact N_ret2 rfl (rv_cell 16 rfl rfl ti_32 rfl) (rv_tmp rfl) (fun w hh => ⟨((.slice none 0 0 : Value), ([] : List Nat)), rfl, hh.sel [0] rfl⟩)
          · refine JL_q (wants_some rfl rfl rfl h50) rfl (ex_fieldAddr fi_91_1 rfl rfl) ?_
            refine JL_q (wants_some rfl rfl rfl h50) rfl (ex_load_bx 2 ti_66 rfl rfl rfl) ?_
            refine JL_q (wants_some rfl rfl rfl h50) rfl (ex_len_ow 1 Try.underlying66 rfl rfl) ?_
            refine JL_q (wants_some rfl rfl rfl h50) rfl (ex_gtr rfl rfl) ?_
            refine JL_q (wants_none rfl) rfl (ex_pick_false rfl h50 rfl) ?_
            refine JL_nil ?_
            refine N_then ?_
            refine J_if rfl (fun h51 => ?_) (fun h51 => ?_)
            · refine J_seq ?_
              refine J_region ?_
              refine JL_q (wants_none rfl) rfl (ex_build si_32 rfl .nil (fun w hh => trivial)) ?_
              refine JL_sk (wants_none rfl) (sk_store_bx' 15 ti_32 rfl rfl (fun w hh => (cv_aggs ⟨cv_int, cv_slice, trivial⟩)) rfl rfl rfl rfl) ?_
              refine JL_q (wants_none rfl) rfl (ex_assign rfl) ?_
              refine JL_nil ?_
              refine N_then ?_
              refine J_ret ?_
              refine N_then_ret ?_
              refine N_block_ret ?_
              refine N_then_ret ?_
              refine N_round_ret ?_
              refine N_then_ret ?_
              refine N_ctx (fun w hh => SH.od_nil (α := GTape) 91 hh) ?_
              exact N_ret2 rfl (rv_cell 16 rfl rfl ti_32 rfl) (rv_tmp rfl) (fun w hh => ⟨((.slice none 0 0 : Value), ([] : List Nat)), rfl, hh.sel [0] rfl⟩)
            · refine J_skip ?_
              refine N_then ?_
              refine J_region ?_
              refine JL_q (wants_none rfl) rfl (ex_fieldAddr fi_32_1 rfl rfl) ?_
              refine JL_q (wants_none rfl) rfl (ex_load_bx 18 ti_30 rfl rfl rfl) ?_
              refine JL_q (wants_none rfl) rfl (ex_load_bx_agg 2 ti_91 rfl rfl rfl rfl) ?_
              refine JL_ctx (fun w hh => hh.tokf 0 rfl rfl) ?_
              refine JL_ctx (fun w hh => hh.tokf 2 rfl rfl) ?_
              refine JL_st (wants_none rfl) rfl (st_buildSlice_od (vs := [.agg #[x49_0, x49_1]]) (B := (((x49_0 : Value).ownBlock.toList ++ []) ++ (((x49_1 : Value).ownBlock.toList ++ []) ++ []))) ([r38] : List GTape) [1, 0] Try.underlying30 ti_91 zi_91 rfl rfl rfl rfl rfl (fun w hh => (dwv_cons (GTape.dw (hh.dw 1 rfl) (hh.dw 0 rfl)) dwv_nil))) (fun b52 => ?_)
              refine JL_bnd fun z53 hz54 => ?_
              refine JL_st (wants_none rfl) rfl (st_append_od 20 0 Try.underlying30 ti_91 zi_91 rfl bi_91 rfl rfl rfl rfl rfl rfl hz54) (fun v55 => ?_)
              refine JL_q (wants_none rfl) rfl (ex_fieldAddr fi_32_1 rfl rfl) ?_
              refine JL_sk (wants_none rfl) (sk_store_bx' 21 ti_30 rfl rfl (fun w hh => (hh.cv_od 20 rfl)) rfl rfl rfl rfl) ?_
              refine JL_nil ?_
              refine N_block ?_
              refine N_then ?_
              refine J_region ?_
              refine JL_q (wants_none rfl) rfl (ex_move rfl) ?_
              refine JL_q (wants_none rfl) rfl (ex_add rfl rfl) ?_
              refine JL_q (wants_none rfl) rfl (ex_assign rfl) ?_
              refine JL_nil ?_
              exact N_next' (v55, (g14_1 ++ (((x49_0 : Value).ownBlock.toList ++ []) ++ (((x49_1 : Value).ownBlock.toList ++ []) ++ [])))) ⟨rfl, rfl, rfl, rfl, rfl, trivial⟩ [17, 18, 19, 20, 21] rfl rfl
      · refine J_exit ?_
        refine N_then_exit ?_
        exact N_break' (g14_0, g14_1) ⟨rfl, rfl, rfl, rfl, rfl, trivial⟩ [2, 3, 4, 5, 6] rfl rfl
    · obtain ⟨g14_0, g14_1⟩ := g14
      refine N_then ?_
      refine J_seq ?_
      refine J_region ?_
      refine JL_q (wants_none rfl) rfl (ex_load_bx_agg 4 ti_32 rfl rfl rfl rfl) ?_
      refine JL_sk (wants_none rfl) (sk_store_bx' 1 ti_32 rfl rfl (fun w hh => (cv_aggs ⟨cv_int, (hh.cv_od 3 rfl), trivial⟩)) rfl rfl rfl rfl) ?_
      refine JL_q (wants_none rfl) rfl (ex_assign rfl) ?_
      refine JL_nil ?_
      refine N_then ?_
      refine J_ret ?_
      exact N_ret2 rfl (rv_cell 1 rfl rfl ti_32 rfl) (rv_tmp rfl) (fun w hh => ⟨(g14_0, g14_1), rfl, hh.sel [3] rfl⟩)

set_option maxHeartbeats 40000000 in
theorem c_impl_within (A : Nat → Prop) (w : World) (hA : ∀ k, A k → k < w.heap.size) (p0 : Int) (p1 : Int) (p2 : Int) (r : Bool) (hr : F_impl_within p0 p1 p2 = some r) :
    Con Try.prog 47 [.int .i64 p0, .int .i64 p1, .int .i64 p2] A w (fun x_ : Unit => .bool r) (fun x_ => []) := by
  refine Con_of (v := fun (r : Bool) (x_ : Unit) => .bool r) (fs := fun r x_ => []) Try.func47 rfl Try.ntmps47 rfl (SH.start hA) rfl ?_ hr
  unfold F_impl_within
  refine J_seq ?_
  refine J_region ?_
  refine JL_q (wants_none rfl) rfl (ex_assign rfl) ?_
  refine JL_nil ?_
  refine N_then ?_
  refine J_seq ?_
  refine J_region ?_
  refine JL_q (wants_none rfl) rfl (ex_move rfl) ?_
  refine JL_q (wants_none rfl) rfl (ex_move rfl) ?_
  refine JL_q (wants_none rfl) rfl (ex_leq rfl rfl) ?_
  refine JL_q (wants_none rfl) rfl (ex_move rfl) ?_
  refine JL_cond (fun h1 => ?_) (fun h1 => ?_)
  · refine JL_q (wants_some rfl rfl rfl h1) rfl (ex_move rfl) ?_
    refine JL_q (wants_some rfl rfl rfl h1) rfl (ex_move rfl) ?_
    refine JL_q (wants_some rfl rfl rfl h1) rfl (ex_leq rfl rfl) ?_
    refine JL_q (wants_none rfl) rfl (ex_pick_true rfl h1 rfl) ?_
    refine JL_q (wants_none rfl) rfl (ex_assign rfl) ?_
    refine JL_nil ?_
    refine N_then ?_
    refine J_ret ?_
    exact N_ret1 rfl (rv_tmp rfl) (fun w hh => ⟨(), rfl, hh.sel [] rfl⟩)
  · refine JL_passed rfl rfl rfl h1 ?_
    refine JL_passed rfl rfl rfl h1 ?_
    refine JL_passed rfl rfl rfl h1 ?_
    refine JL_q (wants_none rfl) rfl (ex_pick_false rfl h1 rfl) ?_
    refine JL_q (wants_none rfl) rfl (ex_assign rfl) ?_
    refine JL_nil ?_
    refine N_then ?_
    refine J_ret ?_
    exact N_ret1 rfl (rv_tmp rfl) (fun w hh => ⟨(), rfl, hh.sel [] rfl⟩)

set_option maxHeartbeats 40000000 in
theorem c_impl_size_int64 (A : Nat → Prop) (w : World) (hA : ∀ k, A k → k < w.heap.size) (v0_ : Value) (p0 : (List Int)) (hp0 : Rd A w v0_ p0) (r : Int) (hr : F_impl_size_int64 p0 = some r) :
    Con Try.prog 88 [v0_] A w (fun x_ : Unit => .int .i64 r) (fun x_ => []) := by
  refine Con_of (v := fun (r : Int) (x_ : Unit) => .int .i64 r) (fs := fun r x_ => []) Try.func88 rfl Try.ntmps88 rfl ((SH.start hA).start_rd rfl hp0) rfl ?_ hr
  unfold F_impl_size_int64
  refine J_seq ?_
  refine J_region ?_
  refine JL_q (wants_none rfl) rfl (ex_assign rfl) ?_
  refine JL_nil ?_
  refine N_then ?_
  refine J_seq ?_
  refine J_region ?_
  refine JL_q (wants_none rfl) rfl (ex_move rfl) ?_
  refine JL_q (wants_none rfl) rfl (ex_len_rd 0 Try.underlying66 rfl rfl) ?_
  refine JL_q (wants_none rfl) rfl (ex_assign rfl) ?_
  refine JL_nil ?_
  refine N_then ?_
  refine J_ret ?_
  exact N_ret1 rfl (rv_tmp rfl) (fun w hh => ⟨(), rfl, hh.sel [] rfl⟩)

set_option maxHeartbeats 40000000 in
theorem c_impl_allWithin (A : Nat → Prop) (w : World) (hA : ∀ k, A k → k < w.heap.size) (v0_ : Value) (p0 : (List Int)) (hp0 : Rd A w v0_ p0) (p1 : Int) (p2 : Int) (r : Bool) (hr : F_impl_allWithin p0 p1 p2 = some r) :
    Con Try.prog 89 [v0_, .int .i64 p1, .int .i64 p2] A w (fun x_ : Unit => .bool r) (fun x_ => []) := by
  refine Con_of (v := fun (r : Bool) (x_ : Unit) => .bool r) (fs := fun r x_ => []) Try.func89 rfl Try.ntmps89 rfl ((SH.start hA).start_rd rfl hp0) rfl ?_ hr
  unfold F_impl_allWithin
  refine J_seq ?_
  refine J_region ?_
  refine JL_q (wants_none rfl) rfl (ex_assign rfl) ?_
  refine JL_nil ?_
  refine N_then ?_
  refine J_seq ?_
  refine J_seq ?_
  refine J_region ?_
  refine JL_q (wants_none rfl) rfl (ex_move rfl) ?_
  refine JL_q (wants_none rfl) rfl (ex_len_rd 0 Try.underlying66 rfl rfl) ?_
  refine JL_q (wants_none rfl) rfl (ex_move rfl) ?_
  refine JL_nil ?_
  refine N_then ?_
  refine J_loop' (S := Int) (G := Unit) (F_impl_allWithin_L1 p0 p1 p2) (fun s1 _ => [(1, .int .i64 p1), (2, .int .i64 p2), (9, v0_), (10, .int .i64 (p0.length : Int)), (11, .int .i64 s1)]) (fun s1 _ => [.rd v0_ p0]) 0 () ⟨rfl, rfl, rfl, rfl, rfl, trivial⟩ [0] rfl rfl (fun s1 g2 => ?_) (fun s1 g2 => ?_)
  · unfold F_impl_allWithin_L1
    refine J_seq ?_
    refine J_region ?_
    refine JL_q (wants_none rfl) rfl (ex_lss rfl rfl) ?_
    refine JL_nil ?_
    refine N_then ?_
    refine J_seq ?_
    refine J_if rfl (fun h3 => ?_) (fun h3 => ?_)
    · refine J_skip ?_
      refine N_then ?_
      refine J_seq ?_
      refine J_block ?_
      refine J_seq ?_
      refine J_region ?_
      refine JL_bnd fun y4 hy5 => ?_
      refine JL_st (wants_none rfl) rfl (st_index 0 Try.underlying66 ti_2 rfl rfl rfl hy5) (fun q6 => ?_)
      refine JL_st (wants_none rfl) rfl (st_load_pt_o 0 (opens_int _) ti_2 rfl rfl) (fun _ => ?_)
      refine JL_q (wants_none rfl) rfl (ex_assign rfl) ?_
      refine JL_nil ?_
      refine N_then ?_
      refine J_seq ?_
      refine J_region ?_
      refine JL_q (wants_none rfl) rfl (ex_move rfl) ?_
      refine JL_q (wants_none rfl) rfl (ex_move rfl) ?_
      refine JL_q (wants_none rfl) rfl (ex_move rfl) ?_
      refine JL_bnd fun r8 hr9 => ?_
      refine JL_call (wants_none rfl) rfl Try.call47 rfl (Ca_of0 fun w hh => c_impl_within _ w (fun _ hk => hk.elim) _ _ _ _ hr9) (fun _ => ?_)
      refine JL_q (wants_none rfl) rfl (ex_not rfl) ?_
      refine JL_nil ?_
      refine N_then ?_
      refine J_if rfl (fun h10 => ?_) (fun h10 => ?_)
      · refine J_seq ?_
        refine J_region ?_
        refine JL_q (wants_none rfl) rfl (ex_assign rfl) ?_
        refine JL_nil ?_
        refine N_then ?_
        refine J_ret ?_
        refine N_block_ret ?_
        refine N_then_ret ?_
        refine N_round_ret ?_
        refine N_then_ret ?_
        exact N_ret1 rfl (rv_tmp rfl) (fun w hh => ⟨(), rfl, hh.sel [] rfl⟩)
      · refine J_skip ?_
        refine N_block ?_
        refine N_then ?_
        refine J_region ?_
        refine JL_q (wants_none rfl) rfl (ex_add rfl rfl) ?_
        refine JL_q (wants_none rfl) rfl (ex_move rfl) ?_
        refine JL_nil ?_
        exact N_next' () ⟨rfl, rfl, rfl, rfl, rfl, trivial⟩ [1] rfl rfl
    · refine J_exit ?_
      refine N_then_exit ?_
      exact N_break' () ⟨rfl, rfl, rfl, rfl, rfl, trivial⟩ [0] rfl rfl
  · refine N_then ?_
    refine J_seq ?_
    refine J_region ?_
    refine JL_q (wants_none rfl) rfl (ex_assign rfl) ?_
    refine JL_nil ?_
    refine N_then ?_
    refine J_ret ?_
    exact N_ret1 rfl (rv_tmp rfl) (fun w hh => ⟨(), rfl, hh.sel [] rfl⟩)

set_option maxHeartbeats 40000000 in
theorem c_impl_validMultiRule (A : Nat → Prop) (w : World) (hA : ∀ k, A k → k < w.heap.size) (v0_ : Value) (p0 : GMulti) (hp0 : Rd A w v0_ p0) (v1_ : Value) (p1 : GMultiRule) (hp1 : Rd A w v1_ p1) (r : Bool) (hr : F_impl_validMultiRule p0 p1 = some r) :
    Con Try.prog 81 [v0_, v1_] A w (fun x_ : Unit => .bool r) (fun x_ => []) := by
  obtain ⟨v0_0, rfl, hp0_0⟩ := GMulti.open hp0
  obtain ⟨v1_0, v1_1, v1_2, rfl, hp1_0, hp1_1, hp1_2⟩ := GMultiRule.open hp1
  refine Con_of (v := fun (r : Bool) (x_ : Unit) => .bool r) (fs := fun r x_ => []) Try.func81 rfl Try.ntmps81 rfl (((((SH.start hA).start_rd rfl hp0_0).start_rd rfl hp1_0).start_rd rfl hp1_1).start_rd rfl hp1_2) rfl ?_ hr
  unfold F_impl_validMultiRule
  refine J_seq ?_
  refine J_region ?_
  refine JL_st (wants_none rfl) rfl (st_box' rfl (fun w hh => (cv_aggs ⟨cv_int, cv_int, cv_int, (hh.cv 3 rfl), trivial⟩))) (fun b1 => ?_)
  refine JL_st (wants_none rfl) rfl (st_box' rfl (fun w hh => (cv_aggs ⟨cv_int, (hh.cv 3 rfl), (hh.cv 2 rfl), (hh.cv 1 rfl), cv_int, trivial⟩))) (fun b2 => ?_)
  refine JL_q (wants_none rfl) rfl (ex_assign rfl) ?_
  refine JL_nil ?_
  refine N_then ?_
  refine J_seq ?_
  refine J_cut' (S' := Unit) (G' := Unit) (fun _ _ => [(2, .pointer (some ⟨b1, 0, none⟩)), (3, .pointer (some ⟨b2, 0, none⟩))]) (fun _ _ => [.rd v0_0 p0.Rules, .bx b1 37 [.int .i64 p0.Tapes, .int .i64 p0.Symbols, .int .i64 p0.States, v0_0], .rd v1_0 p1.Read, .rd v1_1 p1.Write, .rd v1_2 p1.Move, .bx b2 68 [.int .i64 p1.State, v1_0, v1_1, v1_2, .int .i64 p1.Next]]) ?_ (fun s3 g4 => ?_)
  · refine J_seq ?_
    refine J_region ?_
    refine JL_q (wants_none rfl) rfl (ex_fieldAddr fi_68_0 rfl rfl) ?_
    refine JL_q (wants_none rfl) rfl (ex_load_bx 0 ti_2 rfl rfl rfl) ?_
    refine JL_q (wants_none rfl) rfl (ex_fieldAddr fi_37_2 rfl rfl) ?_
    refine JL_q (wants_none rfl) rfl (ex_load_bx 1 ti_2 rfl rfl rfl) ?_
    refine JL_q (wants_none rfl) rfl (ex_sub rfl rfl) ?_
    refine JL_bnd fun r5 hr6 => ?_
    refine JL_call (wants_none rfl) rfl Try.call47 rfl (Ca_of0 fun w hh => c_impl_within _ w (fun _ hk => hk.elim) _ _ _ _ hr6) (fun _ => ?_)
    refine JL_q (wants_none rfl) rfl (ex_not rfl) ?_
    refine JL_q (wants_none rfl) rfl (ex_move rfl) ?_
    refine JL_cond (fun h7 => ?_) (fun h7 => ?_)
    · refine JL_passed rfl rfl rfl h7 ?_
      refine JL_passed rfl rfl rfl h7 ?_
      refine JL_passed rfl rfl rfl h7 ?_
      refine JL_passed rfl rfl rfl h7 ?_
      refine JL_passed rfl rfl rfl h7 ?_
      refine JL_passed rfl rfl rfl h7 ?_
      refine JL_passed rfl rfl rfl h7 ?_
      refine JL_q (wants_none rfl) rfl (ex_pick_true rfl h7 rfl) ?_
      refine JL_nil ?_
      refine N_then ?_
      refine J_if_true rfl rfl ?_
      refine J_seq ?_
      refine J_region ?_
      refine JL_q (wants_none rfl) rfl (ex_assign rfl) ?_
      refine JL_nil ?_
      refine N_then ?_
      refine J_ret ?_
      refine N_mid_ret ?_
      refine N_then_ret ?_
      exact N_ret1 rfl (rv_tmp rfl) (fun w hh => ⟨(), rfl, hh.sel [] rfl⟩)
    · refine JL_q (wants_some rfl rfl rfl h7) rfl (ex_fieldAddr fi_68_4 rfl rfl) ?_
      refine JL_q (wants_some rfl rfl rfl h7) rfl (ex_load_bx 0 ti_2 rfl rfl rfl) ?_
      refine JL_q (wants_some rfl rfl rfl h7) rfl (ex_fieldAddr fi_37_2 rfl rfl) ?_
      refine JL_q (wants_some rfl rfl rfl h7) rfl (ex_load_bx 1 ti_2 rfl rfl rfl) ?_
      refine JL_q (wants_some rfl rfl rfl h7) rfl (ex_sub rfl rfl) ?_
      refine JL_bnd fun r8 hr9 => ?_
      refine JL_call (wants_some rfl rfl rfl h7) rfl Try.call47 rfl (Ca_of0 fun w hh => c_impl_within _ w (fun _ hk => hk.elim) _ _ _ _ hr9) (fun _ => ?_)
      refine JL_q (wants_some rfl rfl rfl h7) rfl (ex_not rfl) ?_
      refine JL_q (wants_none rfl) rfl (ex_pick_false rfl h7 rfl) ?_
      refine JL_nil ?_
      refine N_then ?_
      refine J_if rfl (fun h10 => ?_) (fun h10 => ?_)
      · refine J_seq ?_
        refine J_region ?_
        refine JL_q (wants_none rfl) rfl (ex_assign rfl) ?_
        refine JL_nil ?_
        refine N_then ?_
        refine J_ret ?_
        refine N_mid_ret ?_
        refine N_then_ret ?_
        exact N_ret1 rfl (rv_tmp rfl) (fun w hh => ⟨(), rfl, hh.sel [] rfl⟩)
      · refine J_skip ?_
        exact N_meet' () ⟨rfl, rfl, trivial⟩ [5, 1, 4, 3, 2, 0] rfl rfl
  · refine N_then ?_
    refine J_seq ?_
    refine J_cut' (S' := Unit) (G' := Unit) (fun _ _ => [(2, .pointer (some ⟨b1, 0, none⟩)), (3, .pointer (some ⟨b2, 0, none⟩))]) (fun _ _ => [.rd v0_0 p0.Rules, .bx b1 37 [.int .i64 p0.Tapes, .int .i64 p0.Symbols, .int .i64 p0.States, v0_0], .rd v1_0 p1.Read, .rd v1_1 p1.Write, .rd v1_2 p1.Move, .bx b2 68 [.int .i64 p1.State, v1_0, v1_1, v1_2, .int .i64 p1.Next]]) ?_ (fun s11 g12 => ?_)
    · refine J_seq ?_
      refine J_draw [] (by kernel_rfl) ?_
      refine JP_take (i := 0) [0, 1, 2, 3, 4, 5] [] rfl (by kernel_rfl) (by kernel_rfl) (by kernel_rfl) rfl rfl (wants_none rfl) rfl (ex_fieldAddr fi_68_1 rfl rfl) ?_
      refine JP_take (i := 1) [0, 1, 2, 3, 4, 5] [] rfl (by kernel_rfl) (by kernel_rfl) (by kernel_rfl) rfl rfl (wants_none rfl) rfl (ex_load_bx 5 ti_66 rfl rfl rfl) ?_
      refine JP_take (i := 3) [0, 1, 2, 3, 4, 5] [] rfl (by kernel_rfl) (by kernel_rfl) (by kernel_rfl) rfl rfl (wants_none rfl) rfl (ex_fieldAddr fi_37_0 rfl rfl) ?_
      refine JP_take (i := 4) [0, 1, 2, 3, 4, 5] [] rfl (by kernel_rfl) (by kernel_rfl) (by kernel_rfl) rfl rfl (wants_none rfl) rfl (ex_load_bx 1 ti_2 rfl rfl rfl) ?_
      refine JP_go [0, 1, 2, 3, 4, 5] [] rfl rfl rfl (fun w14 h1_15 hp13 => ?_)
      refine JD_bnd fun r16 hr17 => ?_
      refine JD_one (i := 2) (by kernel_rfl) ?_
      refine JO_call rfl (wants_none rfl) rfl Try.call88 rfl (Ca_of0 fun w hh => c_impl_size_int64 _ w (fun _ hk => hk.elim) _ _ (hh.rd0 2 rfl) _ hr17) (fun _ => ?_)
      refine JD_take (i := 5) hp13 rfl (by kernel_rfl) (by kernel_rfl) (by kernel_rfl) (wants_none rfl) rfl (ex_neq rfl rfl) ?_
      refine JD_take (i := 6) hp13 rfl (by kernel_rfl) (by kernel_rfl) (by kernel_rfl) (wants_none rfl) rfl (ex_move rfl) ?_
      refine JD_cond (fun h18 => ?_) (fun h18 => ?_)
      · refine JD_pass (i := 7) rfl (by kernel_rfl) (by kernel_rfl) (by kernel_rfl) rfl rfl h18 rfl ?_
        refine JD_pass (i := 8) rfl (by kernel_rfl) (by kernel_rfl) (by kernel_rfl) rfl rfl h18 rfl ?_
        refine JD_pass (i := 9) rfl (by kernel_rfl) (by kernel_rfl) (by kernel_rfl) rfl rfl h18 rfl ?_
        refine JD_pass (i := 10) rfl (by kernel_rfl) (by kernel_rfl) (by kernel_rfl) rfl rfl h18 rfl ?_
        refine JD_pass (i := 11) rfl (by kernel_rfl) (by kernel_rfl) (by kernel_rfl) rfl rfl h18 rfl ?_
        refine JD_pass (i := 12) rfl (by kernel_rfl) (by kernel_rfl) (by kernel_rfl) rfl rfl h18 rfl ?_
        refine JD_take (i := 13) hp13 rfl (by kernel_rfl) (by kernel_rfl) (by kernel_rfl) (wants_none rfl) rfl (ex_pick_true rfl h18 rfl) ?_
        refine JD_take (i := 14) hp13 rfl (by kernel_rfl) (by kernel_rfl) (by kernel_rfl) (wants_none rfl) rfl (ex_move rfl) ?_
        refine JD_pass (i := 15) rfl (by kernel_rfl) (by kernel_rfl) (by kernel_rfl) rfl rfl rfl rfl ?_
        refine JD_pass (i := 16) rfl (by kernel_rfl) (by kernel_rfl) (by kernel_rfl) rfl rfl rfl rfl ?_
        refine JD_pass (i := 17) rfl (by kernel_rfl) (by kernel_rfl) (by kernel_rfl) rfl rfl rfl rfl ?_
        refine JD_pass (i := 18) rfl (by kernel_rfl) (by kernel_rfl) (by kernel_rfl) rfl rfl rfl rfl ?_
        refine JD_pass (i := 19) rfl (by kernel_rfl) (by kernel_rfl) (by kernel_rfl) rfl rfl rfl rfl ?_
        refine JD_pass (i := 20) rfl (by kernel_rfl) (by kernel_rfl) (by kernel_rfl) rfl rfl rfl rfl ?_
        refine JD_take (i := 21) hp13 rfl (by kernel_rfl) (by kernel_rfl) (by kernel_rfl) (wants_none rfl) rfl (ex_pick_true rfl rfl rfl) ?_
        refine JD_done (by kernel_rfl) ?_
        refine N_then ?_
        refine J_if_true rfl rfl ?_
        refine J_seq ?_
        refine J_region ?_
        refine JL_q (wants_none rfl) rfl (ex_assign rfl) ?_
        refine JL_nil ?_
        refine N_then ?_
        refine J_ret ?_
        refine N_mid_ret ?_
        refine N_then_ret ?_
        exact N_ret1 rfl (rv_tmp rfl) (fun w hh => ⟨(), rfl, hh.sel [] rfl⟩)
      · refine JD_take (i := 7) hp13 rfl (by kernel_rfl) (by kernel_rfl) (by kernel_rfl) (wants_some rfl rfl rfl h18) rfl (ex_fieldAddr fi_68_2 rfl rfl) ?_
        refine JD_take (i := 8) hp13 rfl (by kernel_rfl) (by kernel_rfl) (by kernel_rfl) (wants_some rfl rfl rfl h18) rfl (ex_load_bx 5 ti_66 rfl rfl rfl) ?_
        refine JD_take (i := 10) hp13 rfl (by kernel_rfl) (by kernel_rfl) (by kernel_rfl) (wants_some rfl rfl rfl h18) rfl (ex_fieldAddr fi_37_0 rfl rfl) ?_
        refine JD_take (i := 11) hp13 rfl (by kernel_rfl) (by kernel_rfl) (by kernel_rfl) (wants_some rfl rfl rfl h18) rfl (ex_load_bx 1 ti_2 rfl rfl rfl) ?_
        refine JD_bnd fun r19 hr20 => ?_
        refine JD_one (i := 9) (by kernel_rfl) ?_
        refine JO_call rfl (wants_some rfl rfl rfl h18) rfl Try.call88 rfl (Ca_of0 fun w hh => c_impl_size_int64 _ w (fun _ hk => hk.elim) _ _ (hh.rd0 3 rfl) _ hr20) (fun _ => ?_)
        refine JD_take (i := 12) hp13 rfl (by kernel_rfl) (by kernel_rfl) (by kernel_rfl) (wants_some rfl rfl rfl h18) rfl (ex_neq rfl rfl) ?_
        refine JD_take (i := 13) hp13 rfl (by kernel_rfl) (by kernel_rfl) (by kernel_rfl) (wants_none rfl) rfl (ex_pick_false rfl h18 rfl) ?_
        refine JD_take (i := 14) hp13 rfl (by kernel_rfl) (by kernel_rfl) (by kernel_rfl) (wants_none rfl) rfl (ex_move rfl) ?_
        refine JD_cond (fun h21 => ?_) (fun h21 => ?_)
        · refine JD_pass (i := 15) rfl (by kernel_rfl) (by kernel_rfl) (by kernel_rfl) rfl rfl h21 rfl ?_
          refine JD_pass (i := 16) rfl (by kernel_rfl) (by kernel_rfl) (by kernel_rfl) rfl rfl h21 rfl ?_
          refine JD_pass (i := 17) rfl (by kernel_rfl) (by kernel_rfl) (by kernel_rfl) rfl rfl h21 rfl ?_
          refine JD_pass (i := 18) rfl (by kernel_rfl) (by kernel_rfl) (by kernel_rfl) rfl rfl h21 rfl ?_
          refine JD_pass (i := 19) rfl (by kernel_rfl) (by kernel_rfl) (by kernel_rfl) rfl rfl h21 rfl ?_
          refine JD_pass (i := 20) rfl (by kernel_rfl) (by kernel_rfl) (by kernel_rfl) rfl rfl h21 rfl ?_
          refine JD_take (i := 21) hp13 rfl (by kernel_rfl) (by kernel_rfl) (by kernel_rfl) (wants_none rfl) rfl (ex_pick_true rfl h21 rfl) ?_
          refine JD_done (by kernel_rfl) ?_
          refine N_then ?_
          refine J_if_true rfl rfl ?_
          refine J_seq ?_
          refine J_region ?_
          refine JL_q (wants_none rfl) rfl (ex_assign rfl) ?_
          refine JL_nil ?_
          refine N_then ?_
          refine J_ret ?_
          refine N_mid_ret ?_
          refine N_then_ret ?_
          exact N_ret1 rfl (rv_tmp rfl) (fun w hh => ⟨(), rfl, hh.sel [] rfl⟩)
        · refine JD_take (i := 15) hp13 rfl (by kernel_rfl) (by kernel_rfl) (by kernel_rfl) (wants_some rfl rfl rfl h21) rfl (ex_fieldAddr fi_68_3 rfl rfl) ?_
          refine JD_take (i := 16) hp13 rfl (by kernel_rfl) (by kernel_rfl) (by kernel_rfl) (wants_some rfl rfl rfl h21) rfl (ex_load_bx 5 ti_66 rfl rfl rfl) ?_
          refine JD_take (i := 18) hp13 rfl (by kernel_rfl) (by kernel_rfl) (by kernel_rfl) (wants_some rfl rfl rfl h21) rfl (ex_fieldAddr fi_37_0 rfl rfl) ?_
          refine JD_take (i := 19) hp13 rfl (by kernel_rfl) (by kernel_rfl) (by kernel_rfl) (wants_some rfl rfl rfl h21) rfl (ex_load_bx 1 ti_2 rfl rfl rfl) ?_
          refine JD_bnd fun r22 hr23 => ?_
          refine JD_one (i := 17) (by kernel_rfl) ?_
          refine JO_call rfl (wants_some rfl rfl rfl h21) rfl Try.call88 rfl (Ca_of0 fun w hh => c_impl_size_int64 _ w (fun _ hk => hk.elim) _ _ (hh.rd0 4 rfl) _ hr23) (fun _ => ?_)
          refine JD_take (i := 20) hp13 rfl (by kernel_rfl) (by kernel_rfl) (by kernel_rfl) (wants_some rfl rfl rfl h21) rfl (ex_neq rfl rfl) ?_
          refine JD_take (i := 21) hp13 rfl (by kernel_rfl) (by kernel_rfl) (by kernel_rfl) (wants_none rfl) rfl (ex_pick_false rfl h21 rfl) ?_
          refine JD_done (by kernel_rfl) ?_
          refine N_then ?_
          refine J_if rfl (fun h24 => ?_) (fun h24 => ?_)
          · refine J_seq ?_
            refine J_region ?_
            refine JL_q (wants_none rfl) rfl (ex_assign rfl) ?_
            refine JL_nil ?_
            refine N_then ?_
            refine J_ret ?_
            refine N_mid_ret ?_
            refine N_then_ret ?_
            exact N_ret1 rfl (rv_tmp rfl) (fun w hh => ⟨(), rfl, hh.sel [] rfl⟩)
          · refine J_skip ?_
            exact N_meet' () ⟨rfl, rfl, trivial⟩ [0, 1, 2, 3, 4, 5] rfl rfl
    · refine N_then ?_
      refine J_seq ?_
      refine J_region ?_
      refine JL_q (wants_none rfl) rfl (ex_fieldAddr fi_68_1 rfl rfl) ?_
      refine JL_q (wants_none rfl) rfl (ex_load_bx 5 ti_66 rfl rfl rfl) ?_
      refine JL_q (wants_none rfl) rfl (ex_fieldAddr fi_37_1 rfl rfl) ?_
      refine JL_q (wants_none rfl) rfl (ex_load_bx 1 ti_2 rfl rfl rfl) ?_
      refine JL_q (wants_none rfl) rfl (ex_sub rfl rfl) ?_
      refine JL_bnd fun r25 hr26 => ?_
      refine JL_call (wants_none rfl) rfl Try.call89 rfl (Ca_of0 fun w hh => c_impl_allWithin _ w (fun _ hk => hk.elim) _ _ (hh.rd0 2 rfl) _ _ _ hr26) (fun _ => ?_)
      refine JL_q (wants_none rfl) rfl (ex_move rfl) ?_
      refine JL_cond (fun h27 => ?_) (fun h27 => ?_)
      · refine JL_q (wants_some rfl rfl rfl h27) rfl (ex_fieldAddr fi_68_2 rfl rfl) ?_
        refine JL_q (wants_some rfl rfl rfl h27) rfl (ex_load_bx 5 ti_66 rfl rfl rfl) ?_
        refine JL_q (wants_some rfl rfl rfl h27) rfl (ex_fieldAddr fi_37_1 rfl rfl) ?_
        refine JL_q (wants_some rfl rfl rfl h27) rfl (ex_load_bx 1 ti_2 rfl rfl rfl) ?_
        refine JL_q (wants_some rfl rfl rfl h27) rfl (ex_sub rfl rfl) ?_
        refine JL_bnd fun r28 hr29 => ?_
        refine JL_call (wants_some rfl rfl rfl h27) rfl Try.call89 rfl (Ca_of0 fun w hh => c_impl_allWithin _ w (fun _ hk => hk.elim) _ _ (hh.rd0 3 rfl) _ _ _ hr29) (fun _ => ?_)
        refine JL_q (wants_none rfl) rfl (ex_pick_true rfl h27 rfl) ?_
        refine JL_q (wants_none rfl) rfl (ex_move rfl) ?_
        refine JL_cond (fun h30 => ?_) (fun h30 => ?_)
        · refine JL_q (wants_some rfl rfl rfl h30) rfl (ex_fieldAddr fi_68_3 rfl rfl) ?_
          refine JL_q (wants_some rfl rfl rfl h30) rfl (ex_load_bx 5 ti_66 rfl rfl rfl) ?_
          refine JL_bnd fun r31 hr32 => ?_
          refine JL_call (wants_some rfl rfl rfl h30) rfl Try.call89 rfl (Ca_of0 fun w hh => c_impl_allWithin _ w (fun _ hk => hk.elim) _ _ (hh.rd0 4 rfl) _ _ _ hr32) (fun _ => ?_)
          refine JL_q (wants_none rfl) rfl (ex_pick_true rfl h30 rfl) ?_
          refine JL_q (wants_none rfl) rfl (ex_assign rfl) ?_
          refine JL_nil ?_
          refine N_then ?_
          refine J_ret ?_
          exact N_ret1 rfl (rv_tmp rfl) (fun w hh => ⟨(), rfl, hh.sel [] rfl⟩)
        · refine JL_passed rfl rfl rfl h30 ?_
          refine JL_passed rfl rfl rfl h30 ?_
          refine JL_passed rfl rfl rfl h30 ?_
          refine JL_q (wants_none rfl) rfl (ex_pick_false rfl h30 rfl) ?_
          refine JL_q (wants_none rfl) rfl (ex_assign rfl) ?_
          refine JL_nil ?_
          refine N_then ?_
          refine J_ret ?_
          exact N_ret1 rfl (rv_tmp rfl) (fun w hh => ⟨(), rfl, hh.sel [] rfl⟩)
      · refine JL_passed rfl rfl rfl h27 ?_
        refine JL_passed rfl rfl rfl h27 ?_
        refine JL_passed rfl rfl rfl h27 ?_
        refine JL_passed rfl rfl rfl h27 ?_
        refine JL_passed rfl rfl rfl h27 ?_
        refine JL_passed rfl rfl rfl h27 ?_
        refine JL_q (wants_none rfl) rfl (ex_pick_false rfl h27 rfl) ?_
        refine JL_q (wants_none rfl) rfl (ex_move rfl) ?_
        refine JL_passed rfl rfl rfl rfl ?_
        refine JL_passed rfl rfl rfl rfl ?_
        refine JL_passed rfl rfl rfl rfl ?_
        refine JL_q (wants_none rfl) rfl (ex_pick_false rfl rfl rfl) ?_
        refine JL_q (wants_none rfl) rfl (ex_assign rfl) ?_
        refine JL_nil ?_
        refine N_then ?_
        refine J_ret ?_
        exact N_ret1 rfl (rv_tmp rfl) (fun w hh => ⟨(), rfl, hh.sel [] rfl⟩)

set_option maxHeartbeats 40000000 in
theorem c_cmp_isNaN_int64 (A : Nat → Prop) (w : World) (hA : ∀ k, A k → k < w.heap.size) (p0 : Int) (r : Bool) (hr : F_cmp_isNaN_int64 p0 = some r) :
    Con Try.prog 93 [.int .i64 p0] A w (fun x_ : Unit => .bool r) (fun x_ => []) := by
  refine Con_of (v := fun (r : Bool) (x_ : Unit) => .bool r) (fs := fun r x_ => []) Try.func93 rfl Try.ntmps93 rfl (SH.start hA) rfl ?_ hr
  unfold F_cmp_isNaN_int64
  refine J_seq ?_
  refine J_region ?_
  refine JL_q (wants_none rfl) rfl (ex_assign rfl) ?_
  refine JL_nil ?_
  refine N_then ?_
  refine J_seq ?_
  refine J_region ?_
  refine JL_q (wants_none rfl) rfl (ex_move rfl) ?_
  refine JL_q (wants_none rfl) rfl (ex_move rfl) ?_
  refine JL_q (wants_none rfl) rfl (ex_neq rfl rfl) ?_
  refine JL_q (wants_none rfl) rfl (ex_assign rfl) ?_
  refine JL_nil ?_
  refine N_then ?_
  refine J_ret ?_
  exact N_ret1 rfl (rv_tmp rfl) (fun w hh => ⟨(), rfl, hh.sel [] rfl⟩)

set_option maxHeartbeats 40000000 in
theorem c_cmp_Compare_int64 (A : Nat → Prop) (w : World) (hA : ∀ k, A k → k < w.heap.size) (p0 : Int) (p1 : Int) (r : Int) (hr : F_cmp_Compare_int64 p0 p1 = some r) :
    Con Try.prog 92 [.int .i64 p0, .int .i64 p1] A w (fun x_ : Unit => .int .i64 r) (fun x_ => []) := by
  refine Con_of (v := fun (r : Int) (x_ : Unit) => .int .i64 r) (fs := fun r x_ => []) Try.func92 rfl Try.ntmps92 rfl (SH.start hA) rfl ?_ hr
  unfold F_cmp_Compare_int64
  refine J_seq ?_
  refine J_region ?_
  refine JL_q (wants_none rfl) rfl (ex_assign rfl) ?_
  refine JL_nil ?_
  refine N_then ?_
  refine J_seq ?_
  refine J_region ?_
  refine JL_q (wants_none rfl) rfl (ex_move rfl) ?_
  refine JL_bnd fun r1 hr2 => ?_
  refine JL_call (wants_none rfl) rfl Try.call93 rfl (Ca_of0 fun w hh => c_cmp_isNaN_int64 _ w (fun _ hk => hk.elim) _ _ hr2) (fun _ => ?_)
  refine JL_q (wants_none rfl) rfl (ex_assign rfl) ?_
  refine JL_nil ?_
  refine N_then ?_
  refine J_seq ?_
  refine J_region ?_
  refine JL_q (wants_none rfl) rfl (ex_move rfl) ?_
  refine JL_bnd fun r3 hr4 => ?_
  refine JL_call (wants_none rfl) rfl Try.call93 rfl (Ca_of0 fun w hh => c_cmp_isNaN_int64 _ w (fun _ hk => hk.elim) _ _ hr4) (fun _ => ?_)
  refine JL_q (wants_none rfl) rfl (ex_assign rfl) ?_
  refine JL_nil ?_
  refine N_then ?_
  refine J_seq ?_
  refine J_seq ?_
  refine J_region ?_
  refine JL_q (wants_none rfl) rfl (ex_move rfl) ?_
  refine JL_nil ?_
  refine N_then ?_
  refine J_if rfl (fun h5 => ?_) (fun h5 => ?_)
  · refine J_seq ?_
    refine J_seq ?_
    refine J_region ?_
    refine JL_q (wants_none rfl) rfl (ex_move rfl) ?_
    refine JL_nil ?_
    refine N_then ?_
    refine J_if rfl (fun h6 => ?_) (fun h6 => ?_)
    · refine J_seq ?_
      refine J_region ?_
      refine JL_q (wants_none rfl) rfl (ex_assign rfl) ?_
      refine JL_nil ?_
      refine N_then ?_
      refine J_ret ?_
      refine N_then_ret ?_
      refine N_then_ret ?_
      exact N_ret1 rfl (rv_tmp rfl) (fun w hh => ⟨(), rfl, hh.sel [] rfl⟩)
    · refine J_skip ?_
      refine N_then ?_
      refine J_seq ?_
      refine J_region ?_
      refine JL_q (wants_none rfl) rfl (ex_assign rfl) ?_
      refine JL_nil ?_
      refine N_then ?_
      refine J_ret ?_
      refine N_then_ret ?_
      exact N_ret1 rfl (rv_tmp rfl) (fun w hh => ⟨(), rfl, hh.sel [] rfl⟩)
  · refine J_skip ?_
    refine N_then ?_
    refine J_seq ?_
    refine J_seq ?_
    refine J_region ?_
    refine JL_q (wants_none rfl) rfl (ex_move rfl) ?_
    refine JL_nil ?_
    refine N_then ?_
    refine J_if rfl (fun h7 => ?_) (fun h7 => ?_)
    · refine J_seq ?_
      refine J_region ?_
      refine JL_q (wants_none rfl) rfl (ex_assign rfl) ?_
      refine JL_nil ?_
      refine N_then ?_
      refine J_ret ?_
      refine N_then_ret ?_
      exact N_ret1 rfl (rv_tmp rfl) (fun w hh => ⟨(), rfl, hh.sel [] rfl⟩)
    · refine J_skip ?_
      refine N_then ?_
      refine J_seq ?_
      refine J_seq ?_
      refine J_region ?_
      refine JL_q (wants_none rfl) rfl (ex_move rfl) ?_
      refine JL_q (wants_none rfl) rfl (ex_move rfl) ?_
      refine JL_q (wants_none rfl) rfl (ex_lss rfl rfl) ?_
      refine JL_nil ?_
      refine N_then ?_
      refine J_if rfl (fun h8 => ?_) (fun h8 => ?_)
      · refine J_seq ?_
        refine J_region ?_
        refine JL_q (wants_none rfl) rfl (ex_assign rfl) ?_
        refine JL_nil ?_
        refine N_then ?_
        refine J_ret ?_
        refine N_then_ret ?_
        exact N_ret1 rfl (rv_tmp rfl) (fun w hh => ⟨(), rfl, hh.sel [] rfl⟩)
      · refine J_skip ?_
        refine N_then ?_
        refine J_seq ?_
        refine J_seq ?_
        refine J_region ?_
        refine JL_q (wants_none rfl) rfl (ex_move rfl) ?_
        refine JL_q (wants_none rfl) rfl (ex_move rfl) ?_
        refine JL_q (wants_none rfl) rfl (ex_gtr rfl rfl) ?_
        refine JL_nil ?_
        refine N_then ?_
        refine J_if rfl (fun h9 => ?_) (fun h9 => ?_)
        · refine J_seq ?_
          refine J_region ?_
          refine JL_q (wants_none rfl) rfl (ex_assign rfl) ?_
          refine JL_nil ?_
          refine N_then ?_
          refine J_ret ?_
          refine N_then_ret ?_
          exact N_ret1 rfl (rv_tmp rfl) (fun w hh => ⟨(), rfl, hh.sel [] rfl⟩)
        · refine J_skip ?_
          refine N_then ?_
          refine J_seq ?_
          refine J_region ?_
          refine JL_q (wants_none rfl) rfl (ex_assign rfl) ?_
          refine JL_nil ?_
          refine N_then ?_
          refine J_ret ?_
          exact N_ret1 rfl (rv_tmp rfl) (fun w hh => ⟨(), rfl, hh.sel [] rfl⟩)

set_option maxHeartbeats 40000000 in
theorem c_slices_Compare_Sint64_int64 (A : Nat → Prop) (w : World) (hA : ∀ k, A k → k < w.heap.size) (v0_ : Value) (p0 : (List Int)) (hp0 : Rd A w v0_ p0) (v1_ : Value) (p1 : (List Int)) (hp1 : Rd A w v1_ p1) (r : Int) (hr : F_slices_Compare_Sint64_int64 p0 p1 = some r) :
    Con Try.prog 90 [v0_, v1_] A w (fun x_ : Unit => .int .i64 r) (fun x_ => []) := by
  refine Con_of (v := fun (r : Int) (x_ : Unit) => .int .i64 r) (fs := fun r x_ => []) Try.func90 rfl Try.ntmps90 rfl (((SH.start hA).start_rd rfl hp0).start_rd rfl hp1) rfl ?_ hr
  unfold F_slices_Compare_Sint64_int64
  refine J_seq ?_
  refine J_region ?_
  refine JL_q (wants_none rfl) rfl (ex_assign rfl) ?_
  refine JL_nil ?_
  refine N_then ?_
  refine J_seq ?_
  refine J_seq ?_
  refine J_region ?_
  refine JL_q (wants_none rfl) rfl (ex_move rfl) ?_
  refine JL_q (wants_none rfl) rfl (ex_len_rd 1 Try.underlying66 rfl rfl) ?_
  refine JL_q (wants_none rfl) rfl (ex_move rfl) ?_
  refine JL_nil ?_
  refine N_then ?_
  refine J_loop' (S := Int) (G := Unit) (F_slices_Compare_Sint64_int64_L1 p0 p1) (fun s1 _ => [(0, v0_), (1, v1_), (9, v0_), (10, .int .i64 (p0.length : Int)), (11, .int .i64 s1)]) (fun s1 _ => [.rd v0_ p0, .rd v1_ p1]) 0 () ⟨rfl, rfl, rfl, rfl, rfl, trivial⟩ [1, 0] rfl rfl (fun s1 g2 => ?_) (fun s1 g2 => ?_)
  · unfold F_slices_Compare_Sint64_int64_L1
    refine J_seq ?_
    refine J_region ?_
    refine JL_q (wants_none rfl) rfl (ex_lss rfl rfl) ?_
    refine JL_nil ?_
    refine N_then ?_
    refine J_seq ?_
    refine J_if rfl (fun h3 => ?_) (fun h3 => ?_)
    · refine J_skip ?_
      refine N_then ?_
      refine J_seq ?_
      refine J_block ?_
      refine J_seq ?_
      refine J_region ?_
      refine JL_q (wants_none rfl) rfl (ex_move rfl) ?_
      refine JL_bnd fun y4 hy5 => ?_
      refine JL_st (wants_none rfl) rfl (st_index 0 Try.underlying66 ti_2 rfl rfl rfl hy5) (fun q6 => ?_)
      refine JL_st (wants_none rfl) rfl (st_load_pt_o 0 (opens_int _) ti_2 rfl rfl) (fun _ => ?_)
      refine JL_q (wants_none rfl) rfl (ex_assign rfl) ?_
      refine JL_q (wants_none rfl) rfl (ex_assign rfl) ?_
      refine JL_nil ?_
      refine N_then ?_
      refine J_seq ?_
      refine J_seq ?_
      refine J_region ?_
      refine JL_q (wants_none rfl) rfl (ex_move rfl) ?_
      refine JL_q (wants_none rfl) rfl (ex_move rfl) ?_
      refine JL_q (wants_none rfl) rfl (ex_len_rd 2 Try.underlying66 rfl rfl) ?_
      refine JL_q (wants_none rfl) rfl (ex_geq rfl rfl) ?_
      refine JL_nil ?_
      refine N_then ?_
      refine J_if rfl (fun h8 => ?_) (fun h8 => ?_)
      · refine J_seq ?_
        refine J_region ?_
        refine JL_q (wants_none rfl) rfl (ex_assign rfl) ?_
        refine JL_nil ?_
        refine N_then ?_
        refine J_ret ?_
        refine N_then_ret ?_
        refine N_block_ret ?_
        refine N_then_ret ?_
        refine N_round_ret ?_
        refine N_then_ret ?_
        exact N_ret1 rfl (rv_tmp rfl) (fun w hh => ⟨(), rfl, hh.sel [] rfl⟩)
      · refine J_skip ?_
        refine N_then ?_
        refine J_seq ?_
        refine J_region ?_
        refine JL_q (wants_none rfl) rfl (ex_move rfl) ?_
        refine JL_q (wants_none rfl) rfl (ex_move rfl) ?_
        refine JL_bnd fun y9 hy10 => ?_
        refine JL_st (wants_none rfl) rfl (st_index 2 Try.underlying66 ti_2 rfl rfl rfl hy10) (fun q11 => ?_)
        refine JL_st (wants_none rfl) rfl (st_load_pt_o 0 (opens_int _) ti_2 rfl rfl) (fun _ => ?_)
        refine JL_q (wants_none rfl) rfl (ex_assign rfl) ?_
        refine JL_nil ?_
        refine N_then ?_
        refine J_seq ?_
        refine J_region ?_
        refine JL_q (wants_none rfl) rfl (ex_move rfl) ?_
        refine JL_q (wants_none rfl) rfl (ex_move rfl) ?_
        refine JL_bnd fun r13 hr14 => ?_
        refine JL_call (wants_none rfl) rfl Try.call92 rfl (Ca_of0 fun w hh => c_cmp_Compare_int64 _ w (fun _ hk => hk.elim) _ _ _ hr14) (fun _ => ?_)
        refine JL_q (wants_none rfl) rfl (ex_assign rfl) ?_
        refine JL_nil ?_
        refine N_then ?_
        refine J_seq ?_
        refine J_region ?_
        refine JL_q (wants_none rfl) rfl (ex_move rfl) ?_
        refine JL_q (wants_none rfl) rfl (ex_neq rfl rfl) ?_
        refine JL_nil ?_
        refine N_then ?_
        refine J_if rfl (fun h15 => ?_) (fun h15 => ?_)
        · refine J_seq ?_
          refine J_region ?_
          refine JL_q (wants_none rfl) rfl (ex_move rfl) ?_
          refine JL_q (wants_none rfl) rfl (ex_assign rfl) ?_
          refine JL_nil ?_
          refine N_then ?_
          refine J_ret ?_
          refine N_block_ret ?_
          refine N_then_ret ?_
          refine N_round_ret ?_
          refine N_then_ret ?_
          exact N_ret1 rfl (rv_tmp rfl) (fun w hh => ⟨(), rfl, hh.sel [] rfl⟩)
        · refine J_skip ?_
          refine N_block ?_
          refine N_then ?_
          refine J_region ?_
          refine JL_q (wants_none rfl) rfl (ex_add rfl rfl) ?_
          refine JL_q (wants_none rfl) rfl (ex_move rfl) ?_
          refine JL_nil ?_
          exact N_next' () ⟨rfl, rfl, rfl, rfl, rfl, trivial⟩ [2, 3] rfl rfl
    · refine J_exit ?_
      refine N_then_exit ?_
      exact N_break' () ⟨rfl, rfl, rfl, rfl, rfl, trivial⟩ [0, 1] rfl rfl
  · refine N_then ?_
    refine J_seq ?_
    refine J_seq ?_
    refine J_region ?_
    refine JL_q (wants_none rfl) rfl (ex_move rfl) ?_
    refine JL_q (wants_none rfl) rfl (ex_len_rd 0 Try.underlying66 rfl rfl) ?_
    refine JL_q (wants_none rfl) rfl (ex_move rfl) ?_
    refine JL_q (wants_none rfl) rfl (ex_len_rd 1 Try.underlying66 rfl rfl) ?_
    refine JL_q (wants_none rfl) rfl (ex_lss rfl rfl) ?_
    refine JL_nil ?_
    refine N_then ?_
    refine J_if rfl (fun h16 => ?_) (fun h16 => ?_)
    · refine J_seq ?_
      refine J_region ?_
      refine JL_q (wants_none rfl) rfl (ex_assign rfl) ?_
      refine JL_nil ?_
      refine N_then ?_
      refine J_ret ?_
      refine N_then_ret ?_
      exact N_ret1 rfl (rv_tmp rfl) (fun w hh => ⟨(), rfl, hh.sel [] rfl⟩)
    · refine J_skip ?_
      refine N_then ?_
      refine J_seq ?_
      refine J_region ?_
      refine JL_q (wants_none rfl) rfl (ex_assign rfl) ?_
      refine JL_nil ?_
      refine N_then ?_
      refine J_ret ?_
      exact N_ret1 rfl (rv_tmp rfl) (fun w hh => ⟨(), rfl, hh.sel [] rfl⟩)

set_option maxHeartbeats 40000000 in
theorem c_impl_compareMultiRules (A : Nat → Prop) (w : World) (hA : ∀ k, A k → k < w.heap.size) (v0_ : Value) (p0 : GMultiRule) (hp0 : Rd A w v0_ p0) (v1_ : Value) (p1 : GMultiRule) (hp1 : Rd A w v1_ p1) (r : Int) (hr : F_impl_compareMultiRules p0 p1 = some r) :
    Con Try.prog 82 [v0_, v1_] A w (fun x_ : Unit => .int .i64 r) (fun x_ => []) := by
  obtain ⟨v0_0, v0_1, v0_2, rfl, hp0_0, hp0_1, hp0_2⟩ := GMultiRule.open hp0
  obtain ⟨v1_0, v1_1, v1_2, rfl, hp1_0, hp1_1, hp1_2⟩ := GMultiRule.open hp1
  refine Con_of (v := fun (r : Int) (x_ : Unit) => .int .i64 r) (fs := fun r x_ => []) Try.func82 rfl Try.ntmps82 rfl (((((((SH.start hA).start_rd rfl hp0_0).start_rd rfl hp0_1).start_rd rfl hp0_2).start_rd rfl hp1_0).start_rd rfl hp1_1).start_rd rfl hp1_2) rfl ?_ hr
  unfold F_impl_compareMultiRules
  refine J_seq ?_
  refine J_region ?_
  refine JL_st (wants_none rfl) rfl (st_box' rfl (fun w hh => (cv_aggs ⟨cv_int, (hh.cv 5 rfl), (hh.cv 4 rfl), (hh.cv 3 rfl), cv_int, trivial⟩))) (fun b1 => ?_)
  refine JL_st (wants_none rfl) rfl (st_box' rfl (fun w hh => (cv_aggs ⟨cv_int, (hh.cv 3 rfl), (hh.cv 2 rfl), (hh.cv 1 rfl), cv_int, trivial⟩))) (fun b2 => ?_)
  refine JL_q (wants_none rfl) rfl (ex_assign rfl) ?_
  refine JL_nil ?_
  refine N_then ?_
  refine J_seq ?_
  refine J_seq ?_
  refine J_region ?_
  refine JL_q (wants_none rfl) rfl (ex_fieldAddr fi_68_0 rfl rfl) ?_
  refine JL_q (wants_none rfl) rfl (ex_load_bx 1 ti_2 rfl rfl rfl) ?_
  refine JL_q (wants_none rfl) rfl (ex_fieldAddr fi_68_0 rfl rfl) ?_
  refine JL_q (wants_none rfl) rfl (ex_load_bx 0 ti_2 rfl rfl rfl) ?_
  refine JL_q (wants_none rfl) rfl (ex_neq rfl rfl) ?_
  refine JL_nil ?_
  refine N_then ?_
  refine J_if rfl (fun h3 => ?_) (fun h3 => ?_)
  · refine J_seq ?_
    refine J_seq ?_
    refine J_region ?_
    refine JL_q (wants_none rfl) rfl (ex_fieldAddr fi_68_0 rfl rfl) ?_
    refine JL_q (wants_none rfl) rfl (ex_load_bx 1 ti_2 rfl rfl rfl) ?_
    refine JL_q (wants_none rfl) rfl (ex_fieldAddr fi_68_0 rfl rfl) ?_
    refine JL_q (wants_none rfl) rfl (ex_load_bx 0 ti_2 rfl rfl rfl) ?_
    refine JL_q (wants_none rfl) rfl (ex_lss rfl rfl) ?_
    refine JL_nil ?_
    refine N_then ?_
    refine J_if rfl (fun h4 => ?_) (fun h4 => ?_)
    · refine J_seq ?_
      refine J_region ?_
      refine JL_q (wants_none rfl) rfl (ex_assign rfl) ?_
      refine JL_nil ?_
      refine N_then ?_
      refine J_ret ?_
      refine N_then_ret ?_
      refine N_then_ret ?_
      exact N_ret1 rfl (rv_tmp rfl) (fun w hh => ⟨(), rfl, hh.sel [] rfl⟩)
    · refine J_skip ?_
      refine N_then ?_
      refine J_seq ?_
      refine J_region ?_
      refine JL_q (wants_none rfl) rfl (ex_assign rfl) ?_
      refine JL_nil ?_
      refine N_then ?_
      refine J_ret ?_
      refine N_then_ret ?_
      exact N_ret1 rfl (rv_tmp rfl) (fun w hh => ⟨(), rfl, hh.sel [] rfl⟩)
  · refine J_skip ?_
    refine N_then ?_
    refine J_seq ?_
    refine J_region ?_
    refine JL_q (wants_none rfl) rfl (ex_fieldAddr fi_68_1 rfl rfl) ?_
    refine JL_q (wants_none rfl) rfl (ex_load_bx 1 ti_66 rfl rfl rfl) ?_
    refine JL_q (wants_none rfl) rfl (ex_fieldAddr fi_68_1 rfl rfl) ?_
    refine JL_q (wants_none rfl) rfl (ex_load_bx 0 ti_66 rfl rfl rfl) ?_
    refine JL_bnd fun r5 hr6 => ?_
    refine JL_call (wants_none rfl) rfl Try.call90 rfl (Ca_of0 fun w hh => c_slices_Compare_Sint64_int64 _ w (fun _ hk => hk.elim) _ _ (hh.rd0 7 rfl) _ _ (hh.rd0 4 rfl) _ hr6) (fun _ => ?_)
    refine JL_q (wants_none rfl) rfl (ex_assign rfl) ?_
    refine JL_nil ?_
    refine N_then ?_
    refine J_ret ?_
    exact N_ret1 rfl (rv_tmp rfl) (fun w hh => ⟨(), rfl, hh.sel [] rfl⟩)

set_option maxHeartbeats 40000000 in
theorem c_impl_ValidMulti (A : Nat → Prop) (w : World) (hA : ∀ k, A k → k < w.heap.size) (v0_ : Value) (p0 : GMulti) (hp0 : Rd A w v0_ p0) (r : Bool) (hr : F_impl_ValidMulti p0 = some r) :
    Con Try.prog 65 [v0_] A w (fun x_ : Unit => .bool r) (fun x_ => []) := by
  obtain ⟨v0_0, rfl, hp0_0⟩ := GMulti.open hp0
  refine Con_of (v := fun (r : Bool) (x_ : Unit) => .bool r) (fs := fun r x_ => []) Try.func65 rfl Try.ntmps65 rfl ((SH.start hA).start_rd rfl hp0_0) rfl ?_ hr
  unfold F_impl_ValidMulti
  refine J_seq ?_
  refine J_region ?_
  refine JL_st (wants_none rfl) rfl (st_box' rfl (fun w hh => (cv_aggs ⟨cv_int, cv_int, cv_int, (hh.cv 0 rfl), trivial⟩))) (fun b1 => ?_)
  refine JL_q (wants_none rfl) rfl (ex_assign rfl) ?_
  refine JL_nil ?_
  refine N_then ?_
  refine J_seq ?_
  refine J_cut' (S' := Unit) (G' := Unit) (fun _ _ => [(1, .pointer (some ⟨b1, 0, none⟩))]) (fun _ _ => [.rd v0_0 p0.Rules, .bx b1 37 [.int .i64 p0.Tapes, .int .i64 p0.Symbols, .int .i64 p0.States, v0_0]]) ?_ (fun s2 g3 => ?_)
  · refine J_seq ?_
    refine J_region ?_
    refine JL_q (wants_none rfl) rfl (ex_fieldAddr fi_37_0 rfl rfl) ?_
    refine JL_q (wants_none rfl) rfl (ex_load_bx 0 ti_2 rfl rfl rfl) ?_
    refine JL_bnd fun r4 hr5 => ?_
    refine JL_call (wants_none rfl) rfl Try.call47 rfl (Ca_of0 fun w hh => c_impl_within _ w (fun _ hk => hk.elim) _ _ _ _ hr5) (fun _ => ?_)
    refine JL_q (wants_none rfl) rfl (ex_not rfl) ?_
    refine JL_q (wants_none rfl) rfl (ex_move rfl) ?_
    refine JL_cond (fun h6 => ?_) (fun h6 => ?_)
    · refine JL_passed rfl rfl rfl h6 ?_
      refine JL_passed rfl rfl rfl h6 ?_
      refine JL_passed rfl rfl rfl h6 ?_
      refine JL_passed rfl rfl rfl h6 ?_
      refine JL_q (wants_none rfl) rfl (ex_pick_true rfl h6 rfl) ?_
      refine JL_q (wants_none rfl) rfl (ex_move rfl) ?_
      refine JL_passed rfl rfl rfl rfl ?_
      refine JL_passed rfl rfl rfl rfl ?_
      refine JL_passed rfl rfl rfl rfl ?_
      refine JL_passed rfl rfl rfl rfl ?_
      refine JL_q (wants_none rfl) rfl (ex_pick_true rfl rfl rfl) ?_
      refine JL_q (wants_none rfl) rfl (ex_move rfl) ?_
      refine JL_passed rfl rfl rfl rfl ?_
      refine JL_passed rfl rfl rfl rfl ?_
      refine JL_passed rfl rfl rfl rfl ?_
      refine JL_passed rfl rfl rfl rfl ?_
      refine JL_q (wants_none rfl) rfl (ex_pick_true rfl rfl rfl) ?_
      refine JL_nil ?_
      refine N_then ?_
      refine J_if_true rfl rfl ?_
      refine J_seq ?_
      refine J_region ?_
      refine JL_q (wants_none rfl) rfl (ex_assign rfl) ?_
      refine JL_nil ?_
      refine N_then ?_
      refine J_ret ?_
      refine N_mid_ret ?_
      refine N_then_ret ?_
      exact N_ret1 rfl (rv_tmp rfl) (fun w hh => ⟨(), rfl, hh.sel [] rfl⟩)
    · refine JL_q (wants_some rfl rfl rfl h6) rfl (ex_fieldAddr fi_37_1 rfl rfl) ?_
      refine JL_q (wants_some rfl rfl rfl h6) rfl (ex_load_bx 0 ti_2 rfl rfl rfl) ?_
      refine JL_bnd fun r7 hr8 => ?_
      refine JL_call (wants_some rfl rfl rfl h6) rfl Try.call47 rfl (Ca_of0 fun w hh => c_impl_within _ w (fun _ hk => hk.elim) _ _ _ _ hr8) (fun _ => ?_)
      refine JL_q (wants_some rfl rfl rfl h6) rfl (ex_not rfl) ?_
      refine JL_q (wants_none rfl) rfl (ex_pick_false rfl h6 rfl) ?_
      refine JL_q (wants_none rfl) rfl (ex_move rfl) ?_
      refine JL_cond (fun h9 => ?_) (fun h9 => ?_)
      · refine JL_passed rfl rfl rfl h9 ?_
        refine JL_passed rfl rfl rfl h9 ?_
        refine JL_passed rfl rfl rfl h9 ?_
        refine JL_passed rfl rfl rfl h9 ?_
        refine JL_q (wants_none rfl) rfl (ex_pick_true rfl h9 rfl) ?_
        refine JL_q (wants_none rfl) rfl (ex_move rfl) ?_
        refine JL_passed rfl rfl rfl rfl ?_
        refine JL_passed rfl rfl rfl rfl ?_
        refine JL_passed rfl rfl rfl rfl ?_
        refine JL_passed rfl rfl rfl rfl ?_
        refine JL_q (wants_none rfl) rfl (ex_pick_true rfl rfl rfl) ?_
        refine JL_nil ?_
        refine N_then ?_
        refine J_if_true rfl rfl ?_
        refine J_seq ?_
        refine J_region ?_
        refine JL_q (wants_none rfl) rfl (ex_assign rfl) ?_
        refine JL_nil ?_
        refine N_then ?_
        refine J_ret ?_
        refine N_mid_ret ?_
        refine N_then_ret ?_
        exact N_ret1 rfl (rv_tmp rfl) (fun w hh => ⟨(), rfl, hh.sel [] rfl⟩)
      · refine JL_q (wants_some rfl rfl rfl h9) rfl (ex_fieldAddr fi_37_2 rfl rfl) ?_
        refine JL_q (wants_some rfl rfl rfl h9) rfl (ex_load_bx 0 ti_2 rfl rfl rfl) ?_
        refine JL_bnd fun r10 hr11 => ?_
        refine JL_call (wants_some rfl rfl rfl h9) rfl Try.call47 rfl (Ca_of0 fun w hh => c_impl_within _ w (fun _ hk => hk.elim) _ _ _ _ hr11) (fun _ => ?_)
        refine JL_q (wants_some rfl rfl rfl h9) rfl (ex_not rfl) ?_
        refine JL_q (wants_none rfl) rfl (ex_pick_false rfl h9 rfl) ?_
        refine JL_q (wants_none rfl) rfl (ex_move rfl) ?_
        refine JL_cond (fun h12 => ?_) (fun h12 => ?_)
        · refine JL_passed rfl rfl rfl h12 ?_
          refine JL_passed rfl rfl rfl h12 ?_
          refine JL_passed rfl rfl rfl h12 ?_
          refine JL_passed rfl rfl rfl h12 ?_
          refine JL_q (wants_none rfl) rfl (ex_pick_true rfl h12 rfl) ?_
          refine JL_nil ?_
          refine N_then ?_
          refine J_if_true rfl rfl ?_
          refine J_seq ?_
          refine J_region ?_
          refine JL_q (wants_none rfl) rfl (ex_assign rfl) ?_
          refine JL_nil ?_
          refine N_then ?_
          refine J_ret ?_
          refine N_mid_ret ?_
          refine N_then_ret ?_
          exact N_ret1 rfl (rv_tmp rfl) (fun w hh => ⟨(), rfl, hh.sel [] rfl⟩)
        · refine JL_q (wants_some rfl rfl rfl h12) rfl (ex_fieldAddr fi_37_3 rfl rfl) ?_
          refine JL_q (wants_some rfl rfl rfl h12) rfl (ex_load_bx 0 ti_35 rfl rfl rfl) ?_
          refine JL_q (wants_some rfl rfl rfl h12) rfl (ex_len_rd 1 Try.underlying35 rfl rfl) ?_
          refine JL_q (wants_some rfl rfl rfl h12) rfl (ex_gtr rfl rfl) ?_
          refine JL_q (wants_none rfl) rfl (ex_pick_false rfl h12 rfl) ?_
          refine JL_nil ?_
          refine N_then ?_
          refine J_if rfl (fun h13 => ?_) (fun h13 => ?_)
          · refine J_seq ?_
            refine J_region ?_
            refine JL_q (wants_none rfl) rfl (ex_assign rfl) ?_
            refine JL_nil ?_
            refine N_then ?_
            refine J_ret ?_
            refine N_mid_ret ?_
            refine N_then_ret ?_
            exact N_ret1 rfl (rv_tmp rfl) (fun w hh => ⟨(), rfl, hh.sel [] rfl⟩)
          · refine J_skip ?_
            exact N_meet' () ⟨rfl, trivial⟩ [1, 0] rfl rfl
  · refine N_then ?_
    refine J_seq ?_
    refine J_seq ?_
    refine J_region ?_
    refine JL_q (wants_none rfl) rfl (ex_fieldAddr fi_37_3 rfl rfl) ?_
    refine JL_q (wants_none rfl) rfl (ex_load_bx 1 ti_35 rfl rfl rfl) ?_
    refine JL_q (wants_none rfl) rfl (ex_len_rd 0 Try.underlying35 rfl rfl) ?_
    refine JL_q (wants_none rfl) rfl (ex_move rfl) ?_
    refine JL_nil ?_
    refine N_then ?_
    refine J_loop' (S := Int) (G := Unit) (F_impl_ValidMulti_L1 p0) (fun s14 _ => [(1, .pointer (some ⟨b1, 0, none⟩)), (28, v0_0), (29, .int .i64 (p0.Rules.length : Int)), (30, .int .i64 s14)]) (fun s14 _ => [.rd v0_0 p0.Rules, .bx b1 37 [.int .i64 p0.Tapes, .int .i64 p0.Symbols, .int .i64 p0.States, v0_0]]) 0 () ⟨rfl, rfl, rfl, rfl, trivial⟩ [0, 1] rfl rfl (fun s14 g15 => ?_) (fun s14 g15 => ?_)
    · unfold F_impl_ValidMulti_L1
      refine J_seq ?_
      refine J_region ?_
      refine JL_q (wants_none rfl) rfl (ex_lss rfl rfl) ?_
      refine JL_nil ?_
      refine N_then ?_
      refine J_seq ?_
      refine J_if rfl (fun h16 => ?_) (fun h16 => ?_)
      · refine J_skip ?_
        refine N_then ?_
        refine J_seq ?_
        refine J_block ?_
        refine J_seq ?_
        refine J_region ?_
        refine JL_q (wants_none rfl) rfl (ex_move rfl) ?_
        refine JL_bnd fun y17 hy18 => ?_
        refine JL_st (wants_none rfl) rfl (st_index 0 Try.underlying35 ti_68 rfl rfl rfl hy18) (fun q19 => ?_)
        refine JL_st (wants_none rfl) rfl (st_load_pt_o 0 (GMultiRule.opens _) ti_68 rfl rfl) (fun v20 => ?_)
        refine JL_st (wants_none rfl) rfl (st_alloc zi_68 rfl) (fun b21 => ?_)
        refine JL_q (wants_none rfl) rfl (ex_assign rfl) ?_
        refine JL_sk (wants_none rfl) (sk_store_bx' 0 ti_68 rfl rfl (fun w hh => (cv_aggs ⟨cv_int, (hh.cv 1 rfl), (hh.cv 2 rfl), (hh.cv 3 rfl), cv_int, trivial⟩)) rfl rfl rfl rfl) ?_
        refine JL_nil ?_
        refine N_then ?_
        refine J_seq ?_
        refine J_draw [] (by kernel_rfl) ?_
        refine JP_take (i := 0) [0, 1, 2, 3, 4, 5, 6] [] rfl (by kernel_rfl) (by kernel_rfl) (by kernel_rfl) rfl rfl (wants_none rfl) rfl (ex_load_bx_agg 6 ti_37 rfl rfl rfl rfl) ?_
        refine JP_take (i := 1) [0, 1, 2, 3, 4, 5, 6] [] rfl (by kernel_rfl) (by kernel_rfl) (by kernel_rfl) rfl rfl (wants_none rfl) rfl (ex_load_bx_agg 0 ti_68 rfl rfl rfl rfl) ?_
        refine JP_go [0, 1, 2, 3, 4, 5, 6] [] rfl rfl rfl (fun w23 h1_24 hp22 => ?_)
        refine JD_bnd fun r25 hr26 => ?_
        refine JD_one (i := 2) (by kernel_rfl) ?_
        refine JO_call rfl (wants_none rfl) rfl Try.call81 rfl (Ca_of0 fun w hh => c_impl_validMultiRule _ w (fun _ hk => hk.elim) _ _ (GMulti.rdmk (Rd.mk_int _ _ _) (Rd.mk_int _ _ _) (Rd.mk_int _ _ _) (hh.rd0 5 rfl)) _ _ (GMultiRule.rdmk (Rd.mk_int _ _ _) (hh.rd0 1 rfl) (hh.rd0 2 rfl) (hh.rd0 3 rfl) (Rd.mk_int _ _ _)) _ hr26) (fun _ => ?_)
        refine JD_take (i := 3) hp22 rfl (by kernel_rfl) (by kernel_rfl) (by kernel_rfl) (wants_none rfl) rfl (ex_not rfl) ?_
        refine JD_take (i := 4) hp22 rfl (by kernel_rfl) (by kernel_rfl) (by kernel_rfl) (wants_none rfl) rfl (ex_move rfl) ?_
        refine JD_cond (fun h27 => ?_) (fun h27 => ?_)
        · refine JD_pass (i := 5) rfl (by kernel_rfl) (by kernel_rfl) (by kernel_rfl) rfl rfl h27 rfl ?_
          refine JD_pass (i := 6) rfl (by kernel_rfl) (by kernel_rfl) (by kernel_rfl) rfl rfl h27 rfl ?_
          refine JD_pass (i := 7) rfl (by kernel_rfl) (by kernel_rfl) (by kernel_rfl) rfl rfl h27 rfl ?_
          refine JD_pass_undef (i := 8) rfl (by kernel_rfl) (by kernel_rfl) (by kernel_rfl) rfl rfl rfl ?_
          refine JD_pass_undef (i := 9) rfl (by kernel_rfl) (by kernel_rfl) (by kernel_rfl) rfl rfl rfl ?_
          refine JD_pass_undef (i := 10) rfl (by kernel_rfl) (by kernel_rfl) (by kernel_rfl) rfl rfl rfl ?_
          refine JD_pass_undef (i := 11) rfl (by kernel_rfl) (by kernel_rfl) (by kernel_rfl) rfl rfl rfl ?_
          refine JD_pass_undef (i := 12) rfl (by kernel_rfl) (by kernel_rfl) (by kernel_rfl) rfl rfl rfl ?_
          refine JD_pass_undef (i := 13) rfl (by kernel_rfl) (by kernel_rfl) (by kernel_rfl) rfl rfl rfl ?_
          refine JD_pass_undef (i := 14) rfl (by kernel_rfl) (by kernel_rfl) (by kernel_rfl) rfl rfl rfl ?_
          refine JD_pass_undef (i := 15) rfl (by kernel_rfl) (by kernel_rfl) (by kernel_rfl) rfl rfl rfl ?_
          refine JD_pass_undef (i := 16) rfl (by kernel_rfl) (by kernel_rfl) (by kernel_rfl) rfl rfl rfl ?_
          refine JD_pass (i := 17) rfl (by kernel_rfl) (by kernel_rfl) (by kernel_rfl) rfl rfl h27 rfl ?_
          refine JD_take (i := 18) hp22 rfl (by kernel_rfl) (by kernel_rfl) (by kernel_rfl) (wants_none rfl) rfl (ex_pick_true rfl h27 rfl) ?_
          refine JD_done (by kernel_rfl) ?_
          refine N_then ?_
          refine J_if_true rfl rfl ?_
          refine J_seq ?_
          refine J_region ?_
          refine JL_q (wants_none rfl) rfl (ex_assign rfl) ?_
          refine JL_nil ?_
          refine N_then ?_
          refine J_ret ?_
          refine N_block_ret ?_
          refine N_then_ret ?_
          refine N_round_ret ?_
          refine N_then_ret ?_
          exact N_ret1 rfl (rv_tmp rfl) (fun w hh => ⟨(), rfl, hh.sel [] rfl⟩)
        · refine JD_take (i := 5) hp22 rfl (by kernel_rfl) (by kernel_rfl) (by kernel_rfl) (wants_some rfl rfl rfl h27) rfl (ex_move rfl) ?_
          refine JD_take (i := 6) hp22 rfl (by kernel_rfl) (by kernel_rfl) (by kernel_rfl) (wants_some rfl rfl rfl h27) rfl (ex_gtr rfl rfl) ?_
          refine JD_take (i := 7) hp22 rfl (by kernel_rfl) (by kernel_rfl) (by kernel_rfl) (wants_some rfl rfl rfl h27) rfl (ex_move rfl) ?_
          refine JD_cond (fun h28 => ?_) (fun h28 => ?_)
          · refine JD_take (i := 8) hp22 rfl (by kernel_rfl) (by kernel_rfl) (by kernel_rfl) (wants_some rfl rfl rfl h28) rfl (ex_fieldAddr fi_37_3 rfl rfl) ?_
            refine JD_take (i := 9) hp22 rfl (by kernel_rfl) (by kernel_rfl) (by kernel_rfl) (wants_some rfl rfl rfl h28) rfl (ex_load_bx 6 ti_35 rfl rfl rfl) ?_
            refine JD_take (i := 10) hp22 rfl (by kernel_rfl) (by kernel_rfl) (by kernel_rfl) (wants_some rfl rfl rfl h28) rfl (ex_move rfl) ?_
            refine JD_take (i := 11) hp22 rfl (by kernel_rfl) (by kernel_rfl) (by kernel_rfl) (wants_some rfl rfl rfl h28) rfl (ex_sub rfl rfl) ?_
            refine JD_bnd fun y29 hy30 => ?_
            refine JD_sq (i := 12) (fs := fun q31 => [.pt q31 y29]) [] h1_24 rfl rfl (by kernel_rfl) (by kernel_rfl) (by kernel_rfl) (wants_some rfl rfl rfl h28) rfl (sq_index 5 Try.underlying35 ti_68 rfl rfl rfl hy30) (fun _ => rfl) (fun q31 h1_32 => ?_)
            refine JD_sq (i := 13) [] h1_32 rfl rfl (by kernel_rfl) (by kernel_rfl) (by kernel_rfl) (wants_some rfl rfl rfl h28) rfl (sq_load_pt_o 0 (GMultiRule.opens _) ti_68 rfl rfl) (fun _ => rfl) (fun v33 h1_34 => ?_)
            refine JD_take (i := 14) hp22 rfl (by kernel_rfl) (by kernel_rfl) (by kernel_rfl) (wants_some rfl rfl rfl h28) rfl (ex_load_bx_agg 0 ti_68 rfl rfl rfl rfl) ?_
            refine JD_bnd fun r35 hr36 => ?_
            refine JD_one (i := 15) (by kernel_rfl) ?_
            refine JO_call rfl (wants_some rfl rfl rfl h28) rfl Try.call82 rfl (Ca_of0 fun w hh => c_impl_compareMultiRules _ w (fun _ hk => hk.elim) _ _ (GMultiRule.rdmk (Rd.mk_int _ _ _) (hh.rd0 0 rfl) (hh.rd0 1 rfl) (hh.rd0 2 rfl) (Rd.mk_int _ _ _)) _ _ (GMultiRule.rdmk (Rd.mk_int _ _ _) (hh.rd0 5 rfl) (hh.rd0 6 rfl) (hh.rd0 7 rfl) (Rd.mk_int _ _ _)) _ hr36) (fun _ => ?_)
            refine JD_take (i := 16) hp22 rfl (by kernel_rfl) (by kernel_rfl) (by kernel_rfl) (wants_some rfl rfl rfl h28) rfl (ex_geq rfl rfl) ?_
            refine JD_take (i := 17) hp22 rfl (by kernel_rfl) (by kernel_rfl) (by kernel_rfl) (wants_some rfl rfl rfl h27) rfl (ex_pick_true rfl h28 rfl) ?_
            refine JD_take (i := 18) hp22 rfl (by kernel_rfl) (by kernel_rfl) (by kernel_rfl) (wants_none rfl) rfl (ex_pick_false rfl h27 rfl) ?_
            refine JD_done (by kernel_rfl) ?_
            refine N_then ?_
            refine J_if rfl (fun h37 => ?_) (fun h37 => ?_)
            · refine J_seq ?_
              refine J_region ?_
              refine JL_q (wants_none rfl) rfl (ex_assign rfl) ?_
              refine JL_nil ?_
              refine N_then ?_
              refine J_ret ?_
              refine N_block_ret ?_
              refine N_then_ret ?_
              refine N_round_ret ?_
              refine N_then_ret ?_
              exact N_ret1 rfl (rv_tmp rfl) (fun w hh => ⟨(), rfl, hh.sel [] rfl⟩)
            · refine J_skip ?_
              refine N_block ?_
              refine N_then ?_
              refine J_region ?_
              refine JL_q (wants_none rfl) rfl (ex_add rfl rfl) ?_
              refine JL_q (wants_none rfl) rfl (ex_move rfl) ?_
              refine JL_nil ?_
              exact N_next' () ⟨rfl, rfl, rfl, rfl, trivial⟩ [9, 10] rfl rfl
          · refine JD_pass (i := 8) rfl (by kernel_rfl) (by kernel_rfl) (by kernel_rfl) rfl rfl h28 rfl ?_
            refine JD_pass (i := 9) rfl (by kernel_rfl) (by kernel_rfl) (by kernel_rfl) rfl rfl h28 rfl ?_
            refine JD_pass (i := 10) rfl (by kernel_rfl) (by kernel_rfl) (by kernel_rfl) rfl rfl h28 rfl ?_
            refine JD_pass (i := 11) rfl (by kernel_rfl) (by kernel_rfl) (by kernel_rfl) rfl rfl h28 rfl ?_
            refine JD_pass (i := 12) rfl (by kernel_rfl) (by kernel_rfl) (by kernel_rfl) rfl rfl h28 rfl ?_
            refine JD_pass (i := 13) rfl (by kernel_rfl) (by kernel_rfl) (by kernel_rfl) rfl rfl h28 rfl ?_
            refine JD_pass (i := 14) rfl (by kernel_rfl) (by kernel_rfl) (by kernel_rfl) rfl rfl h28 rfl ?_
            refine JD_pass (i := 15) rfl (by kernel_rfl) (by kernel_rfl) (by kernel_rfl) rfl rfl h28 rfl ?_
            refine JD_pass (i := 16) rfl (by kernel_rfl) (by kernel_rfl) (by kernel_rfl) rfl rfl h28 rfl ?_
            refine JD_take (i := 17) hp22 rfl (by kernel_rfl) (by kernel_rfl) (by kernel_rfl) (wants_some rfl rfl rfl h27) rfl (ex_pick_false rfl h28 rfl) ?_
            refine JD_take (i := 18) hp22 rfl (by kernel_rfl) (by kernel_rfl) (by kernel_rfl) (wants_none rfl) rfl (ex_pick_false rfl h27 rfl) ?_
            refine JD_done (by kernel_rfl) ?_
            refine N_then ?_
            refine J_if_false rfl rfl ?_
            refine J_skip ?_
            refine N_block ?_
            refine N_then ?_
            refine J_region ?_
            refine JL_q (wants_none rfl) rfl (ex_add rfl rfl) ?_
            refine JL_q (wants_none rfl) rfl (ex_move rfl) ?_
            refine JL_nil ?_
            exact N_next' () ⟨rfl, rfl, rfl, rfl, trivial⟩ [5, 6] rfl rfl
      · refine J_exit ?_
        refine N_then_exit ?_
        exact N_break' () ⟨rfl, rfl, rfl, rfl, trivial⟩ [0, 1] rfl rfl
    · refine N_then ?_
      refine J_seq ?_
      refine J_region ?_
      refine JL_q (wants_none rfl) rfl (ex_assign rfl) ?_
      refine JL_nil ?_
      refine N_then ?_
      refine J_ret ?_
      exact N_ret1 rfl (rv_tmp rfl) (fun w hh => ⟨(), rfl, hh.sel [] rfl⟩)

set_option maxHeartbeats 40000000 in
theorem c_impl_size_impl_Tape (A : Nat → Prop) (w : World) (hA : ∀ k, A k → k < w.heap.size) (v0_ : Value) (p0 : (List GTape)) (hp0 : Rd A w v0_ p0) (r : Int) (hr : F_impl_size_impl_Tape p0 = some r) :
    Con Try.prog 66 [v0_] A w (fun x_ : Unit => .int .i64 r) (fun x_ => []) := by
  refine Con_of (v := fun (r : Int) (x_ : Unit) => .int .i64 r) (fs := fun r x_ => []) Try.func66 rfl Try.ntmps66 rfl ((SH.start hA).start_rd rfl hp0) rfl ?_ hr
  unfold F_impl_size_impl_Tape
  refine J_seq ?_
  refine J_region ?_
  refine JL_q (wants_none rfl) rfl (ex_assign rfl) ?_
  refine JL_nil ?_
  refine N_then ?_
  refine J_seq ?_
  refine J_region ?_
  refine JL_q (wants_none rfl) rfl (ex_move rfl) ?_
  refine JL_q (wants_none rfl) rfl (ex_len_rd 0 Try.underlying30 rfl rfl) ?_
  refine JL_q (wants_none rfl) rfl (ex_assign rfl) ?_
  refine JL_nil ?_
  refine N_then ?_
  refine J_ret ?_
  exact N_ret1 rfl (rv_tmp rfl) (fun w hh => ⟨(), rfl, hh.sel [] rfl⟩)

set_option maxHeartbeats 40000000 in
theorem c_impl_validSide (A : Nat → Prop) (w : World) (hA : ∀ k, A k → k < w.heap.size) (v0_ : Value) (p0 : (List Int)) (hp0 : Rd A w v0_ p0) (p1 : Int) (p2 : Int) (r : Bool) (hr : F_impl_validSide p0 p1 p2 = some r) :
    Con Try.prog 84 [v0_, .int .i64 p1, .int .i64 p2] A w (fun x_ : Unit => .bool r) (fun x_ => []) := by
  refine Con_of (v := fun (r : Bool) (x_ : Unit) => .bool r) (fs := fun r x_ => []) Try.func84 rfl Try.ntmps84 rfl ((SH.start hA).start_rd rfl hp0) rfl ?_ hr
  unfold F_impl_validSide
  refine J_seq ?_
  refine J_region ?_
  refine JL_q (wants_none rfl) rfl (ex_assign rfl) ?_
  refine JL_nil ?_
  refine N_then ?_
  refine J_seq ?_
  refine J_region ?_
  refine JL_q (wants_none rfl) rfl (ex_move rfl) ?_
  refine JL_bnd fun r1 hr2 => ?_
  refine JL_call (wants_none rfl) rfl Try.call88 rfl (Ca_of0 fun w hh => c_impl_size_int64 _ w (fun _ hk => hk.elim) _ _ (hh.rd0 0 rfl) _ hr2) (fun _ => ?_)
  refine JL_q (wants_none rfl) rfl (ex_move rfl) ?_
  refine JL_q (wants_none rfl) rfl (ex_leq rfl rfl) ?_
  refine JL_q (wants_none rfl) rfl (ex_move rfl) ?_
  refine JL_cond (fun h3 => ?_) (fun h3 => ?_)
  · refine JL_q (wants_some rfl rfl rfl h3) rfl (ex_move rfl) ?_
    refine JL_q (wants_some rfl rfl rfl h3) rfl (ex_move rfl) ?_
    refine JL_q (wants_some rfl rfl rfl h3) rfl (ex_sub rfl rfl) ?_
    refine JL_bnd fun r4 hr5 => ?_
    refine JL_call (wants_some rfl rfl rfl h3) rfl Try.call89 rfl (Ca_of0 fun w hh => c_impl_allWithin _ w (fun _ hk => hk.elim) _ _ (hh.rd0 0 rfl) _ _ _ hr5) (fun _ => ?_)
    refine JL_q (wants_none rfl) rfl (ex_pick_true rfl h3 rfl) ?_
    refine JL_q (wants_none rfl) rfl (ex_move rfl) ?_
    refine JL_cond (fun h6 => ?_) (fun h6 => ?_)
    · refine JL_q (wants_some rfl rfl rfl h6) rfl (ex_move rfl) ?_
      refine JL_q (wants_some rfl rfl rfl h6) rfl (ex_len_rd 0 Try.underlying66 rfl rfl) ?_
      refine JL_q (wants_some rfl rfl rfl h6) rfl (ex_eql rfl rfl) ?_
      refine JL_q (wants_some rfl rfl rfl h6) rfl (ex_move rfl) ?_
      refine JL_cond (fun h7 => ?_) (fun h7 => ?_)
      · refine JL_passed rfl rfl rfl h7 ?_
        refine JL_passed rfl rfl rfl h7 ?_
        refine JL_passed rfl rfl rfl h7 ?_
        refine JL_passed rfl rfl rfl h7 ?_
        refine JL_passed rfl rfl rfl h7 ?_
        refine JL_passed rfl rfl rfl h7 ?_
        refine JL_passed rfl rfl rfl h7 ?_
        refine JL_q (wants_some rfl rfl rfl h6) rfl (ex_pick_true rfl h7 rfl) ?_
        refine JL_q (wants_none rfl) rfl (ex_pick_true rfl h6 rfl) ?_
        refine JL_q (wants_none rfl) rfl (ex_assign rfl) ?_
        refine JL_nil ?_
        refine N_then ?_
        refine J_ret ?_
        exact N_ret1 rfl (rv_tmp rfl) (fun w hh => ⟨(), rfl, hh.sel [] rfl⟩)
      · refine JL_q (wants_some rfl rfl rfl h7) rfl (ex_move rfl) ?_
        refine JL_q (wants_some rfl rfl rfl h7) rfl (ex_move rfl) ?_
        refine JL_q (wants_some rfl rfl rfl h7) rfl (ex_len_rd 0 Try.underlying66 rfl rfl) ?_
        refine JL_q (wants_some rfl rfl rfl h7) rfl (ex_sub rfl rfl) ?_
        refine JL_bnd fun y8 hy9 => ?_
        refine JL_st (wants_some rfl rfl rfl h7) rfl (st_index 0 Try.underlying66 ti_2 rfl rfl rfl hy9) (fun q10 => ?_)
        refine JL_st (wants_some rfl rfl rfl h7) rfl (st_load_pt_o 0 (opens_int _) ti_2 rfl rfl) (fun _ => ?_)
        refine JL_q (wants_some rfl rfl rfl h7) rfl (ex_neq rfl rfl) ?_
        refine JL_q (wants_some rfl rfl rfl h6) rfl (ex_pick_false rfl h7 rfl) ?_
        refine JL_q (wants_none rfl) rfl (ex_pick_true rfl h6 rfl) ?_
        refine JL_q (wants_none rfl) rfl (ex_assign rfl) ?_
        refine JL_nil ?_
        refine N_then ?_
        refine J_ret ?_
        exact N_ret1 rfl (rv_tmp rfl) (fun w hh => ⟨(), rfl, hh.sel [] rfl⟩)
    · refine JL_passed rfl rfl rfl h6 ?_
      refine JL_passed rfl rfl rfl h6 ?_
      refine JL_passed rfl rfl rfl h6 ?_
      refine JL_passed rfl rfl rfl h6 ?_
      refine JL_passed_undef rfl rfl rfl ?_
      refine JL_passed_undef rfl rfl rfl ?_
      refine JL_passed_undef rfl rfl rfl ?_
      refine JL_passed_undef rfl rfl rfl ?_
      refine JL_passed_undef rfl rfl rfl ?_
      refine JL_passed_undef rfl rfl rfl ?_
      refine JL_passed_undef rfl rfl rfl ?_
      refine JL_passed rfl rfl rfl h6 ?_
      refine JL_q (wants_none rfl) rfl (ex_pick_false rfl h6 rfl) ?_
      refine JL_q (wants_none rfl) rfl (ex_assign rfl) ?_
      refine JL_nil ?_
      refine N_then ?_
      refine J_ret ?_
      exact N_ret1 rfl (rv_tmp rfl) (fun w hh => ⟨(), rfl, hh.sel [] rfl⟩)
  · refine JL_passed rfl rfl rfl h3 ?_
    refine JL_passed rfl rfl rfl h3 ?_
    refine JL_passed rfl rfl rfl h3 ?_
    refine JL_passed rfl rfl rfl h3 ?_
    refine JL_q (wants_none rfl) rfl (ex_pick_false rfl h3 rfl) ?_
    refine JL_q (wants_none rfl) rfl (ex_move rfl) ?_
    refine JL_passed rfl rfl rfl rfl ?_
    refine JL_passed rfl rfl rfl rfl ?_
    refine JL_passed rfl rfl rfl rfl ?_
    refine JL_passed rfl rfl rfl rfl ?_
    refine JL_passed_undef rfl rfl rfl ?_
    refine JL_passed_undef rfl rfl rfl ?_
    refine JL_passed_undef rfl rfl rfl ?_
    refine JL_passed_undef rfl rfl rfl ?_
    refine JL_passed_undef rfl rfl rfl ?_
    refine JL_passed_undef rfl rfl rfl ?_
    refine JL_passed_undef rfl rfl rfl ?_
    refine JL_passed rfl rfl rfl rfl ?_
    refine JL_q (wants_none rfl) rfl (ex_pick_false rfl rfl rfl) ?_
    refine JL_q (wants_none rfl) rfl (ex_assign rfl) ?_
    refine JL_nil ?_
    refine N_then ?_
    refine J_ret ?_
    exact N_ret1 rfl (rv_tmp rfl) (fun w hh => ⟨(), rfl, hh.sel [] rfl⟩)

set_option maxHeartbeats 40000000 in
theorem c_impl_validTape (A : Nat → Prop) (w : World) (hA : ∀ k, A k → k < w.heap.size) (v0_ : Value) (p0 : GMulti) (hp0 : Rd A w v0_ p0) (v1_ : Value) (p1 : GTape) (hp1 : Rd A w v1_ p1) (r : Bool) (hr : F_impl_validTape p0 p1 = some r) :
    Con Try.prog 69 [v0_, v1_] A w (fun x_ : Unit => .bool r) (fun x_ => []) := by
  obtain ⟨v0_0, rfl, hp0_0⟩ := GMulti.open hp0
  obtain ⟨v1_0, v1_1, rfl, hp1_0, hp1_1⟩ := GTape.open hp1
  refine Con_of (v := fun (r : Bool) (x_ : Unit) => .bool r) (fs := fun r x_ => []) Try.func69 rfl Try.ntmps69 rfl ((((SH.start hA).start_rd rfl hp0_0).start_rd rfl hp1_0).start_rd rfl hp1_1) rfl ?_ hr
  unfold F_impl_validTape
  refine J_seq ?_
  refine J_region ?_
  refine JL_st (wants_none rfl) rfl (st_box' rfl (fun w hh => (cv_aggs ⟨cv_int, cv_int, cv_int, (hh.cv 2 rfl), trivial⟩))) (fun b1 => ?_)
  refine JL_st (wants_none rfl) rfl (st_box' rfl (fun w hh => (cv_aggs ⟨(hh.cv 2 rfl), (hh.cv 1 rfl), trivial⟩))) (fun b2 => ?_)
  refine JL_q (wants_none rfl) rfl (ex_assign rfl) ?_
  refine JL_nil ?_
  refine N_then ?_
  refine J_seq ?_
  refine J_region ?_
  refine JL_q (wants_none rfl) rfl (ex_fieldAddr fi_91_0 rfl rfl) ?_
  refine JL_q (wants_none rfl) rfl (ex_load_bx 0 ti_66 rfl rfl rfl) ?_
  refine JL_q (wants_none rfl) rfl (ex_fieldAddr fi_37_1 rfl rfl) ?_
  refine JL_q (wants_none rfl) rfl (ex_load_bx 1 ti_2 rfl rfl rfl) ?_
  refine JL_bnd fun r3 hr4 => ?_
  refine JL_call (wants_none rfl) rfl Try.call84 rfl (Ca_of0 fun w hh => c_impl_validSide _ w (fun _ hk => hk.elim) _ _ (hh.rd0 3 rfl) _ _ _ hr4) (fun _ => ?_)
  refine JL_q (wants_none rfl) rfl (ex_move rfl) ?_
  refine JL_cond (fun h5 => ?_) (fun h5 => ?_)
  · refine JL_q (wants_some rfl rfl rfl h5) rfl (ex_fieldAddr fi_91_1 rfl rfl) ?_
    refine JL_q (wants_some rfl rfl rfl h5) rfl (ex_load_bx 0 ti_66 rfl rfl rfl) ?_
    refine JL_q (wants_some rfl rfl rfl h5) rfl (ex_fieldAddr fi_37_1 rfl rfl) ?_
    refine JL_q (wants_some rfl rfl rfl h5) rfl (ex_load_bx 1 ti_2 rfl rfl rfl) ?_
    refine JL_bnd fun r6 hr7 => ?_
    refine JL_call (wants_some rfl rfl rfl h5) rfl Try.call84 rfl (Ca_of0 fun w hh => c_impl_validSide _ w (fun _ hk => hk.elim) _ _ (hh.rd0 2 rfl) _ _ _ hr7) (fun _ => ?_)
    refine JL_q (wants_none rfl) rfl (ex_pick_true rfl h5 rfl) ?_
    refine JL_q (wants_none rfl) rfl (ex_assign rfl) ?_
    refine JL_nil ?_
    refine N_then ?_
    refine J_ret ?_
    exact N_ret1 rfl (rv_tmp rfl) (fun w hh => ⟨(), rfl, hh.sel [] rfl⟩)
  · refine JL_passed rfl rfl rfl h5 ?_
    refine JL_passed rfl rfl rfl h5 ?_
    refine JL_passed rfl rfl rfl h5 ?_
    refine JL_passed rfl rfl rfl h5 ?_
    refine JL_passed rfl rfl rfl h5 ?_
    refine JL_q (wants_none rfl) rfl (ex_pick_false rfl h5 rfl) ?_
    refine JL_q (wants_none rfl) rfl (ex_assign rfl) ?_
    refine JL_nil ?_
    refine N_then ?_
    refine J_ret ?_
    exact N_ret1 rfl (rv_tmp rfl) (fun w hh => ⟨(), rfl, hh.sel [] rfl⟩)

set_option maxHeartbeats 40000000 in
theorem c_impl_ValidMultiConfig_1 (A : Nat → Prop) (w : World) (hA : ∀ k, A k → k < w.heap.size) (v0_ : Value) (p0 : GTape) (hp0 : Rd A w v0_ p0) (v1_ : Value) (p1 : GMulti) (hp1 : RdA A w.heap.size w v1_ p1) (r : Bool) (hr : F_impl_ValidMultiConfig_1 p0 p1 = some r) :
    Con Try.prog 68 [v0_, v1_] A w (fun x_ : Unit => .bool r) (fun x_ => []) := by
  obtain ⟨v0_0, v0_1, rfl, hp0_0, hp0_1⟩ := GTape.open hp0
  refine Con_of (v := fun (r : Bool) (x_ : Unit) => .bool r) (fs := fun r x_ => []) Try.func68 rfl Try.ntmps68 rfl ((((SH.start hA).start_rd rfl hp0_0).start_rd rfl hp0_1).start_pa' rfl hp1) rfl ?_ hr
  unfold F_impl_ValidMultiConfig_1
  refine J_seq ?_
  refine J_region ?_
  refine JL_st (wants_none rfl) rfl (st_box' rfl (fun w hh => (cv_aggs ⟨(hh.cv 2 rfl), (hh.cv 1 rfl), trivial⟩))) (fun b1 => ?_)
  refine JL_q (wants_none rfl) rfl (ex_assign rfl) ?_
  refine JL_nil ?_
  refine N_then ?_
  refine J_seq ?_
  refine J_region ?_
  refine JL_st (wants_none rfl) rfl (st_load_pa_o 1 (GMulti.opens _) ti_37 rfl rfl) (fun v2 => ?_)
  refine JL_q (wants_none rfl) rfl (ex_load_bx_agg 1 ti_91 rfl rfl rfl rfl) ?_
  refine JL_bnd fun r3 hr4 => ?_
  refine JL_call (wants_none rfl) rfl Try.call69 rfl (Ca_of0 fun w hh => c_impl_validTape _ w (fun _ hk => hk.elim) _ _ (GMulti.rdmk (Rd.mk_int _ _ _) (Rd.mk_int _ _ _) (Rd.mk_int _ _ _) (hh.rd0 0 rfl)) _ _ (GTape.rdmk (hh.rd0 4 rfl) (hh.rd0 3 rfl)) _ hr4) (fun _ => ?_)
  refine JL_q (wants_none rfl) rfl (ex_not rfl) ?_
  refine JL_q (wants_none rfl) rfl (ex_assign rfl) ?_
  refine JL_nil ?_
  refine N_then ?_
  refine J_ret ?_
  exact N_ret1 rfl (rv_tmp rfl) (fun w hh => ⟨(), rfl, hh.sel [] rfl⟩)

set_option maxHeartbeats 40000000 in
theorem c_slices_IndexFunc_Simpl_Tape_impl_Tape (A : Nat → Prop) (w : World) (hA : ∀ k, A k → k < w.heap.size) (v0_ : Value) (p0 : (List GTape)) (hp0 : Rd A w v0_ p0) (v1_ : Value) (p1 : (GTape → Option Bool)) (hp1 : Clo Try.prog w v1_ p1 .bool) (r : Int) (hr : F_slices_IndexFunc_Simpl_Tape_impl_Tape p0 p1 = some r) :
    Con Try.prog 83 [v0_, v1_] A w (fun x_ : Unit => .int .i64 r) (fun x_ => []) := by
  refine Con_of (v := fun (r : Int) (x_ : Unit) => .int .i64 r) (fs := fun r x_ => []) Try.func83 rfl Try.ntmps83 rfl ((SH.start hA).start_rd rfl hp0) rfl ?_ hr
  unfold F_slices_IndexFunc_Simpl_Tape_impl_Tape
  refine J_seq ?_
  refine J_region ?_
  refine JL_q (wants_none rfl) rfl (ex_assign rfl) ?_
  refine JL_nil ?_
  refine N_then ?_
  refine J_seq ?_
  refine J_seq ?_
  refine J_region ?_
  refine JL_q (wants_none rfl) rfl (ex_move rfl) ?_
  refine JL_q (wants_none rfl) rfl (ex_len_rd 0 Try.underlying30 rfl rfl) ?_
  refine JL_q (wants_none rfl) rfl (ex_move rfl) ?_
  refine JL_nil ?_
  refine N_then ?_
  refine J_loop' (S := Int) (G := Unit) (F_slices_IndexFunc_Simpl_Tape_impl_Tape_L1 p0 p1) (fun s1 _ => [(0, v0_), (1, v1_), (7, .int .i64 (p0.length : Int)), (8, .int .i64 s1)]) (fun s1 _ => [.rd v0_ p0]) 0 () ⟨rfl, rfl, rfl, rfl, trivial⟩ [0] rfl rfl (fun s1 g2 => ?_) (fun s1 g2 => ?_)
  · unfold F_slices_IndexFunc_Simpl_Tape_impl_Tape_L1
    refine J_seq ?_
    refine J_region ?_
    refine JL_q (wants_none rfl) rfl (ex_lss rfl rfl) ?_
    refine JL_nil ?_
    refine N_then ?_
    refine J_seq ?_
    refine J_if rfl (fun h3 => ?_) (fun h3 => ?_)
    · refine J_skip ?_
      refine N_then ?_
      refine J_seq ?_
      refine J_block ?_
      refine J_seq ?_
      refine J_region ?_
      refine JL_q (wants_none rfl) rfl (ex_move rfl) ?_
      refine JL_q (wants_none rfl) rfl (ex_assign rfl) ?_
      refine JL_nil ?_
      refine N_then ?_
      refine J_seq ?_
      refine J_region ?_
      refine JL_q (wants_none rfl) rfl (ex_move rfl) ?_
      refine JL_q (wants_none rfl) rfl (ex_move rfl) ?_
      refine JL_q (wants_none rfl) rfl (ex_move rfl) ?_
      refine JL_bnd fun y4 hy5 => ?_
      refine JL_st (wants_none rfl) rfl (st_index 0 Try.underlying30 ti_91 rfl rfl rfl hy5) (fun q6 => ?_)
      refine JL_st (wants_none rfl) rfl (st_load_pt_o 0 (GTape.opens _) ti_91 rfl rfl) (fun v7 => ?_)
      refine JL_bnd fun r8 hr9 => ?_
      refine JL_clo (wants_none rfl) rfl hp1 rfl rfl (fun w hh => (GTape.rdmk (hh.rd0 0 rfl) (hh.rd0 1 rfl))) hr9 ?_
      refine JL_nil ?_
      refine N_then ?_
      refine J_if rfl (fun h10 => ?_) (fun h10 => ?_)
      · refine J_seq ?_
        refine J_region ?_
        refine JL_q (wants_none rfl) rfl (ex_move rfl) ?_
        refine JL_q (wants_none rfl) rfl (ex_assign rfl) ?_
        refine JL_nil ?_
        refine N_then ?_
        refine J_ret ?_
        refine N_block_ret ?_
        refine N_then_ret ?_
        refine N_round_ret ?_
        refine N_then_ret ?_
        exact N_ret1 rfl (rv_tmp rfl) (fun w hh => ⟨(), rfl, hh.sel [] rfl⟩)
      · refine J_skip ?_
        refine N_block ?_
        refine N_then ?_
        refine J_region ?_
        refine JL_q (wants_none rfl) rfl (ex_add rfl rfl) ?_
        refine JL_q (wants_none rfl) rfl (ex_move rfl) ?_
        refine JL_nil ?_
        exact N_next' () ⟨rfl, rfl, rfl, rfl, trivial⟩ [3] rfl rfl
    · refine J_exit ?_
      refine N_then_exit ?_
      exact N_break' () ⟨rfl, rfl, rfl, rfl, trivial⟩ [0] rfl rfl
  · refine N_then ?_
    refine J_seq ?_
    refine J_region ?_
    refine JL_q (wants_none rfl) rfl (ex_assign rfl) ?_
    refine JL_nil ?_
    refine N_then ?_
    refine J_ret ?_
    exact N_ret1 rfl (rv_tmp rfl) (fun w hh => ⟨(), rfl, hh.sel [] rfl⟩)

set_option maxHeartbeats 40000000 in
theorem c_slices_ContainsFunc_Simpl_Tape_impl_Tape (A : Nat → Prop) (w : World) (hA : ∀ k, A k → k < w.heap.size) (v0_ : Value) (p0 : (List GTape)) (hp0 : Rd A w v0_ p0) (v1_ : Value) (p1 : (GTape → Option Bool)) (hp1 : Clo Try.prog w v1_ p1 .bool) (r : Bool) (hr : F_slices_ContainsFunc_Simpl_Tape_impl_Tape p0 p1 = some r) :
    Con Try.prog 67 [v0_, v1_] A w (fun x_ : Unit => .bool r) (fun x_ => []) := by
  refine Con_of (v := fun (r : Bool) (x_ : Unit) => .bool r) (fs := fun r x_ => []) Try.func67 rfl Try.ntmps67 rfl ((SH.start hA).start_rd rfl hp0) rfl ?_ hr
  unfold F_slices_ContainsFunc_Simpl_Tape_impl_Tape
  refine J_seq ?_
  refine J_region ?_
  refine JL_q (wants_none rfl) rfl (ex_assign rfl) ?_
  refine JL_nil ?_
  refine N_then ?_
  refine J_seq ?_
  refine J_region ?_
  refine JL_q (wants_none rfl) rfl (ex_move rfl) ?_
  refine JL_q (wants_none rfl) rfl (ex_move rfl) ?_
  refine JL_bnd fun r1 hr2 => ?_
  refine JL_call (wants_none rfl) rfl Try.call83 rfl (Ca_of0 fun w hh => c_slices_IndexFunc_Simpl_Tape_impl_Tape _ w (fun _ hk => hk.elim) _ _ (hh.rd0 0 rfl) _ _ (hp1.later hh.below) _ hr2) (fun _ => ?_)
  refine JL_q (wants_none rfl) rfl (ex_geq rfl rfl) ?_
  refine JL_q (wants_none rfl) rfl (ex_assign rfl) ?_
  refine JL_nil ?_
  refine N_then ?_
  refine J_ret ?_
  exact N_ret1 rfl (rv_tmp rfl) (fun w hh => ⟨(), rfl, hh.sel [] rfl⟩)

set_option maxHeartbeats 40000000 in
theorem c_impl_ValidMultiConfig (A : Nat → Prop) (w : World) (hA : ∀ k, A k → k < w.heap.size) (v0_ : Value) (p0 : GMulti) (hp0 : Rd A w v0_ p0) (v1_ : Value) (p1 : GMultiConfig) (hp1 : Rd A w v1_ p1) (r : Bool) (hr : F_impl_ValidMultiConfig p0 p1 = some r) :
    Con Try.prog 41 [v0_, v1_] A w (fun x_ : Unit => .bool r) (fun x_ => []) := by
  obtain ⟨v0_0, rfl, hp0_0⟩ := GMulti.open hp0
  obtain ⟨v1_0, rfl, hp1_0⟩ := GMultiConfig.open hp1
  refine Con_of (v := fun (r : Bool) (x_ : Unit) => .bool r) (fs := fun r x_ => []) Try.func41 rfl Try.ntmps41 rfl (((SH.start hA).start_rd rfl hp0_0).start_rd rfl hp1_0) rfl ?_ hr
  unfold F_impl_ValidMultiConfig
  refine J_seq ?_
  refine J_region ?_
  refine JL_st (wants_none rfl) rfl (st_box' rfl (fun w hh => (cv_aggs ⟨cv_int, cv_int, cv_int, (hh.cv 1 rfl), trivial⟩))) (fun b1 => ?_)
  refine JL_st (wants_none rfl) rfl (st_box' rfl (fun w hh => (cv_aggs ⟨cv_int, (hh.cv 1 rfl), trivial⟩))) (fun b2 => ?_)
  refine JL_q (wants_none rfl) rfl (ex_assign rfl) ?_
  refine JL_nil ?_
  refine N_then ?_
  refine J_seq ?_
  refine J_seq ?_
  refine J_draw [] (by kernel_rfl) ?_
  refine JP_take (i := 0) [0, 1, 2, 3] [] rfl (by kernel_rfl) (by kernel_rfl) (by kernel_rfl) rfl rfl (wants_none rfl) rfl (ex_load_bx_agg 1 ti_37 rfl rfl rfl rfl) ?_
  refine JP_go [0, 1, 2, 3] [] rfl rfl rfl (fun w4 h1_5 hp3 => ?_)
  refine JD_bnd fun r6 hr7 => ?_
  refine JD_one (i := 1) (by kernel_rfl) ?_
  refine JO_call rfl (wants_none rfl) rfl Try.call65 rfl (Ca_of0 fun w hh => c_impl_ValidMulti _ w (fun _ hk => hk.elim) _ _ (GMulti.rdmk (Rd.mk_int _ _ _) (Rd.mk_int _ _ _) (Rd.mk_int _ _ _) (hh.rd0 3 rfl)) _ hr7) (fun _ => ?_)
  refine JD_take (i := 2) hp3 rfl (by kernel_rfl) (by kernel_rfl) (by kernel_rfl) (wants_none rfl) rfl (ex_not rfl) ?_
  refine JD_take (i := 3) hp3 rfl (by kernel_rfl) (by kernel_rfl) (by kernel_rfl) (wants_none rfl) rfl (ex_move rfl) ?_
  refine JD_cond (fun h8 => ?_) (fun h8 => ?_)
  · refine JD_pass (i := 4) rfl (by kernel_rfl) (by kernel_rfl) (by kernel_rfl) rfl rfl h8 rfl ?_
    refine JD_pass (i := 5) rfl (by kernel_rfl) (by kernel_rfl) (by kernel_rfl) rfl rfl h8 rfl ?_
    refine JD_pass (i := 6) rfl (by kernel_rfl) (by kernel_rfl) (by kernel_rfl) rfl rfl h8 rfl ?_
    refine JD_pass (i := 7) rfl (by kernel_rfl) (by kernel_rfl) (by kernel_rfl) rfl rfl h8 rfl ?_
    refine JD_pass (i := 8) rfl (by kernel_rfl) (by kernel_rfl) (by kernel_rfl) rfl rfl h8 rfl ?_
    refine JD_pass (i := 9) rfl (by kernel_rfl) (by kernel_rfl) (by kernel_rfl) rfl rfl h8 rfl ?_
    refine JD_pass (i := 10) rfl (by kernel_rfl) (by kernel_rfl) (by kernel_rfl) rfl rfl h8 rfl ?_
    refine JD_take (i := 11) hp3 rfl (by kernel_rfl) (by kernel_rfl) (by kernel_rfl) (wants_none rfl) rfl (ex_pick_true rfl h8 rfl) ?_
    refine JD_take (i := 12) hp3 rfl (by kernel_rfl) (by kernel_rfl) (by kernel_rfl) (wants_none rfl) rfl (ex_move rfl) ?_
    refine JD_pass (i := 13) rfl (by kernel_rfl) (by kernel_rfl) (by kernel_rfl) rfl rfl rfl rfl ?_
    refine JD_pass (i := 14) rfl (by kernel_rfl) (by kernel_rfl) (by kernel_rfl) rfl rfl rfl rfl ?_
    refine JD_pass (i := 15) rfl (by kernel_rfl) (by kernel_rfl) (by kernel_rfl) rfl rfl rfl rfl ?_
    refine JD_pass (i := 16) rfl (by kernel_rfl) (by kernel_rfl) (by kernel_rfl) rfl rfl rfl rfl ?_
    refine JD_pass (i := 17) rfl (by kernel_rfl) (by kernel_rfl) (by kernel_rfl) rfl rfl rfl rfl ?_
    refine JD_pass (i := 18) rfl (by kernel_rfl) (by kernel_rfl) (by kernel_rfl) rfl rfl rfl rfl ?_
    refine JD_take (i := 19) hp3 rfl (by kernel_rfl) (by kernel_rfl) (by kernel_rfl) (wants_none rfl) rfl (ex_pick_true rfl rfl rfl) ?_
    refine JD_done (by kernel_rfl) ?_
    refine N_then ?_
    refine J_if_true rfl rfl ?_
    refine J_seq ?_
    refine J_region ?_
    refine JL_q (wants_none rfl) rfl (ex_assign rfl) ?_
    refine JL_nil ?_
    refine N_then ?_
    refine J_ret ?_
    refine N_then_ret ?_
    exact N_ret1 rfl (rv_tmp rfl) (fun w hh => ⟨(), rfl, hh.sel [] rfl⟩)
  · refine JD_take (i := 4) hp3 rfl (by kernel_rfl) (by kernel_rfl) (by kernel_rfl) (wants_some rfl rfl rfl h8) rfl (ex_fieldAddr fi_32_0 rfl rfl) ?_
    refine JD_take (i := 5) hp3 rfl (by kernel_rfl) (by kernel_rfl) (by kernel_rfl) (wants_some rfl rfl rfl h8) rfl (ex_load_bx 0 ti_2 rfl rfl rfl) ?_
    refine JD_take (i := 6) hp3 rfl (by kernel_rfl) (by kernel_rfl) (by kernel_rfl) (wants_some rfl rfl rfl h8) rfl (ex_fieldAddr fi_37_2 rfl rfl) ?_
    refine JD_take (i := 7) hp3 rfl (by kernel_rfl) (by kernel_rfl) (by kernel_rfl) (wants_some rfl rfl rfl h8) rfl (ex_load_bx 1 ti_2 rfl rfl rfl) ?_
    refine JD_take (i := 8) hp3 rfl (by kernel_rfl) (by kernel_rfl) (by kernel_rfl) (wants_some rfl rfl rfl h8) rfl (ex_sub rfl rfl) ?_
    refine JD_bnd fun r9 hr10 => ?_
    refine JD_one (i := 9) (by kernel_rfl) ?_
    refine JO_call rfl (wants_some rfl rfl rfl h8) rfl Try.call47 rfl (Ca_of0 fun w hh => c_impl_within _ w (fun _ hk => hk.elim) _ _ _ _ hr10) (fun _ => ?_)
    refine JD_take (i := 10) hp3 rfl (by kernel_rfl) (by kernel_rfl) (by kernel_rfl) (wants_some rfl rfl rfl h8) rfl (ex_not rfl) ?_
    refine JD_take (i := 11) hp3 rfl (by kernel_rfl) (by kernel_rfl) (by kernel_rfl) (wants_none rfl) rfl (ex_pick_false rfl h8 rfl) ?_
    refine JD_take (i := 12) hp3 rfl (by kernel_rfl) (by kernel_rfl) (by kernel_rfl) (wants_none rfl) rfl (ex_move rfl) ?_
    refine JD_cond (fun h11 => ?_) (fun h11 => ?_)
    · refine JD_pass (i := 13) rfl (by kernel_rfl) (by kernel_rfl) (by kernel_rfl) rfl rfl h11 rfl ?_
      refine JD_pass (i := 14) rfl (by kernel_rfl) (by kernel_rfl) (by kernel_rfl) rfl rfl h11 rfl ?_
      refine JD_pass (i := 15) rfl (by kernel_rfl) (by kernel_rfl) (by kernel_rfl) rfl rfl h11 rfl ?_
      refine JD_pass (i := 16) rfl (by kernel_rfl) (by kernel_rfl) (by kernel_rfl) rfl rfl h11 rfl ?_
      refine JD_pass (i := 17) rfl (by kernel_rfl) (by kernel_rfl) (by kernel_rfl) rfl rfl h11 rfl ?_
      refine JD_pass (i := 18) rfl (by kernel_rfl) (by kernel_rfl) (by kernel_rfl) rfl rfl h11 rfl ?_
      refine JD_take (i := 19) hp3 rfl (by kernel_rfl) (by kernel_rfl) (by kernel_rfl) (wants_none rfl) rfl (ex_pick_true rfl h11 rfl) ?_
      refine JD_done (by kernel_rfl) ?_
      refine N_then ?_
      refine J_if_true rfl rfl ?_
      refine J_seq ?_
      refine J_region ?_
      refine JL_q (wants_none rfl) rfl (ex_assign rfl) ?_
      refine JL_nil ?_
      refine N_then ?_
      refine J_ret ?_
      refine N_then_ret ?_
      exact N_ret1 rfl (rv_tmp rfl) (fun w hh => ⟨(), rfl, hh.sel [] rfl⟩)
    · refine JD_take (i := 13) hp3 rfl (by kernel_rfl) (by kernel_rfl) (by kernel_rfl) (wants_some rfl rfl rfl h11) rfl (ex_fieldAddr fi_32_1 rfl rfl) ?_
      refine JD_take (i := 14) hp3 rfl (by kernel_rfl) (by kernel_rfl) (by kernel_rfl) (wants_some rfl rfl rfl h11) rfl (ex_load_bx 0 ti_30 rfl rfl rfl) ?_
      refine JD_take (i := 16) hp3 rfl (by kernel_rfl) (by kernel_rfl) (by kernel_rfl) (wants_some rfl rfl rfl h11) rfl (ex_fieldAddr fi_37_0 rfl rfl) ?_
      refine JD_take (i := 17) hp3 rfl (by kernel_rfl) (by kernel_rfl) (by kernel_rfl) (wants_some rfl rfl rfl h11) rfl (ex_load_bx 1 ti_2 rfl rfl rfl) ?_
      refine JD_bnd fun r12 hr13 => ?_
      refine JD_one (i := 15) (by kernel_rfl) ?_
      refine JO_call rfl (wants_some rfl rfl rfl h11) rfl Try.call66 rfl (Ca_of0 fun w hh => c_impl_size_impl_Tape _ w (fun _ hk => hk.elim) _ _ (hh.rd0 2 rfl) _ hr13) (fun _ => ?_)
      refine JD_take (i := 18) hp3 rfl (by kernel_rfl) (by kernel_rfl) (by kernel_rfl) (wants_some rfl rfl rfl h11) rfl (ex_neq rfl rfl) ?_
      refine JD_take (i := 19) hp3 rfl (by kernel_rfl) (by kernel_rfl) (by kernel_rfl) (wants_none rfl) rfl (ex_pick_false rfl h11 rfl) ?_
      refine JD_done (by kernel_rfl) ?_
      refine N_then ?_
      refine J_if rfl (fun h14 => ?_) (fun h14 => ?_)
      · refine J_seq ?_
        refine J_region ?_
        refine JL_q (wants_none rfl) rfl (ex_assign rfl) ?_
        refine JL_nil ?_
        refine N_then ?_
        refine J_ret ?_
        refine N_then_ret ?_
        exact N_ret1 rfl (rv_tmp rfl) (fun w hh => ⟨(), rfl, hh.sel [] rfl⟩)
      · refine J_skip ?_
        refine N_then ?_
        refine J_seq ?_
        refine J_region ?_
        refine JL_q (wants_none rfl) rfl (ex_fieldAddr fi_32_1 rfl rfl) ?_
        refine JL_q (wants_none rfl) rfl (ex_load_bx 0 ti_30 rfl rfl rfl) ?_
        refine JL_q (wants_none rfl) rfl (ex_makeFunc rfl) ?_
        refine JL_bnd fun r15 hr16 => ?_
        refine JL_call (wants_none rfl) rfl Try.call67 rfl (Ca_of0 fun w hh => c_slices_ContainsFunc_Simpl_Tape_impl_Tape _ w (fun _ hk => hk.elim) _ _ (hh.rd0 2 rfl) _ _ (Clo.mk (caps := [.pointer (some ⟨b1, 0, none⟩)]) Try.call68 (fun w_ hb_ v_ x_ r_ hrd_ hr_ => c_impl_ValidMultiConfig_1 nowhere w_ (fun _ hk => hk.elim) v_ x_ hrd_ _ _ ((hh.bx_pa 1 rfl (GMulti.rdmk (Rd.mk_int _ _ _) (Rd.mk_int _ _ _) (Rd.mk_int _ _ _) (hh.rd0 3 rfl)) rfl).later hb_) _ hr_)) _ hr16) (fun _ => ?_)
        refine JL_q (wants_none rfl) rfl (ex_not rfl) ?_
        refine JL_q (wants_none rfl) rfl (ex_assign rfl) ?_
        refine JL_nil ?_
        refine N_then ?_
        refine J_ret ?_
        exact N_ret1 rfl (rv_tmp rfl) (fun w hh => ⟨(), rfl, hh.sel [] rfl⟩)

end Go.Proofs.Ytomiabeodgcmcaa
