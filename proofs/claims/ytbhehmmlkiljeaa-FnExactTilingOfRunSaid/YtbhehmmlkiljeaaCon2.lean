/-
  Each function of the program computes what its plain function says: printed by program. No condition.
-/
import Derived.Test.YtbhehmmlkiljeaaFn
import Derived.Test.YtbhehmmlkiljeaaInf
import Derived.Test.YtbhehmmlkiljeaaCon1
namespace Go.Proofs.Ytbhehmmlkiljeaa
open Go Go.Tc Go.Fn
set_option linter.unusedVariables false

set_option maxHeartbeats 40000000 in
theorem c_spec_l05Rest (A : Nat → Prop) (w : World) (hA : ∀ k, A k → k < w.heap.size) (v0_ : Value) (p0 : (List Int)) (hp0 : Rd A w v0_ p0) (r : (List Int)) (hr : F_spec_l05Rest p0 = some r) :
    Con Try.prog 51 [v0_] A w (fun x_ : Value => x_) (fun x_ => [.ow 2 x_ r]) := by
  refine Con_of (v := fun (r : (List Int)) (x_ : Value) => x_) (fs := fun r x_ => [.ow 2 x_ r]) Try.func51 rfl Try.ntmps51 rfl ((SH.start hA).start_rd rfl hp0) rfl ?_ hr
  unfold F_spec_l05Rest
  refine J_seq ?_
  refine J_region ?_
  refine JL_q (wants_none rfl) rfl (ex_assign rfl) ?_
  refine JL_nil ?_
  refine N_then ?_
  refine J_seq ?_
  refine J_seq ?_
  refine J_region ?_
  refine JL_q (wants_none rfl) rfl (ex_move rfl) ?_
  refine JL_q (wants_none rfl) rfl (ex_len_rd 0 Try.underlying25 rfl rfl) ?_
  refine JL_q (wants_none rfl) rfl (ex_eql rfl rfl) ?_
  refine JL_nil ?_
  refine N_then ?_
  refine J_if rfl (fun h1 => ?_) (fun h1 => ?_)
  · refine J_seq ?_
    refine J_region ?_
    refine JL_st (wants_none rfl) rfl (st_buildSlice (vs := []) ([] : List Int) Try.underlying25 ti_2 zi_2 rfl rfl rfl (fun w hh => trivial)) (fun b2 => ?_)
    refine JL_q (wants_none rfl) rfl (ex_assign rfl) ?_
    refine JL_nil ?_
    refine N_then ?_
    refine J_ret ?_
    refine N_then_ret ?_
    exact N_ret1 rfl (rv_tmp rfl) (fun w hh => ⟨(.slice (some ⟨b2, 0, none⟩) 0 0), rfl, hh.sel [0] rfl⟩)
  · refine J_skip ?_
    refine N_then ?_
    refine J_seq ?_
    refine J_region ?_
    refine JL_q (wants_none rfl) rfl (ex_move rfl) ?_
    refine JL_bnd fun z3 hz4 => ?_
    refine JL_st (wants_none rfl) rfl (st_slice 0 Try.underlying25 ti_2 rfl rfl rfl rfl hz4) (fun v5 => ?_)
    refine JL_bnd fun r6 hr7 => ?_
    refine JL_call (wants_none rfl) rfl Try.call65 rfl (Ca_self (fun _ => rfl) fun w hh => c_spec_l00Own _ w (fun _ hk => hk.elim) _ _ (hh.rd0 0 rfl) _ hr7) (fun x8 => ?_)
    refine JL_q (wants_none rfl) rfl (ex_assign rfl) ?_
    refine JL_nil ?_
    refine N_then ?_
    refine J_ret ?_
    exact N_ret1 rfl (rv_tmp rfl) (fun w hh => ⟨x8, rfl, hh.sel [0] rfl⟩)

set_option maxHeartbeats 40000000 in
theorem c_spec_l05Trim (A : Nat → Prop) (w : World) (hA : ∀ k, A k → k < w.heap.size) (v0_ : Value) (p0 : (List Int)) (hp0 : Rd A w v0_ p0) (r : (List Int)) (hr : F_spec_l05Trim p0 = some r) :
    Con Try.prog 66 [v0_] A w (fun x_ : Value => x_) (fun x_ => [.ow 2 x_ r]) := by
  refine Con_of (v := fun (r : (List Int)) (x_ : Value) => x_) (fs := fun r x_ => [.ow 2 x_ r]) Try.func66 rfl Try.ntmps66 rfl ((SH.start hA).start_rd rfl hp0) rfl ?_ hr
  unfold F_spec_l05Trim
  refine J_seq ?_
  refine J_region ?_
  refine JL_q (wants_none rfl) rfl (ex_assign rfl) ?_
  refine JL_nil ?_
  refine N_then ?_
  refine J_seq ?_
  refine J_region ?_
  refine JL_q (wants_none rfl) rfl (ex_move rfl) ?_
  refine JL_q (wants_none rfl) rfl (ex_len_rd 0 Try.underlying25 rfl rfl) ?_
  refine JL_q (wants_none rfl) rfl (ex_assign rfl) ?_
  refine JL_nil ?_
  refine N_then ?_
  refine J_seq ?_
  refine J_loop' (S := Int) (G := Unit) (F_spec_l05Trim_L1 p0) (fun s1 _ => [(0, v0_), (3, .int .i64 s1)]) (fun s1 _ => [.rd v0_ p0]) (p0.length : Int) () ⟨rfl, rfl, trivial⟩ [0] rfl rfl (fun s1 g2 => ?_) (fun s1 g2 => ?_)
  · unfold F_spec_l05Trim_L1
    refine J_seq ?_
    refine J_seq ?_
    refine J_region ?_
    refine JL_q (wants_none rfl) rfl (ex_move rfl) ?_
    refine JL_q (wants_none rfl) rfl (ex_gtr rfl rfl) ?_
    refine JL_q (wants_none rfl) rfl (ex_move rfl) ?_
    refine JL_cond (fun h3 => ?_) (fun h3 => ?_)
    · refine JL_q (wants_some rfl rfl rfl h3) rfl (ex_move rfl) ?_
      refine JL_q (wants_some rfl rfl rfl h3) rfl (ex_move rfl) ?_
      refine JL_q (wants_some rfl rfl rfl h3) rfl (ex_sub rfl rfl) ?_
      refine JL_bnd fun y4 hy5 => ?_
      refine JL_st (wants_some rfl rfl rfl h3) rfl (st_index 0 Try.underlying25 ti_2 rfl rfl rfl hy5) (fun q6 => ?_)
      refine JL_st (wants_some rfl rfl rfl h3) rfl (st_load_pt_o 0 (opens_int _) ti_2 rfl rfl) (fun _ => ?_)
      refine JL_q (wants_some rfl rfl rfl h3) rfl (ex_eql rfl rfl) ?_
      refine JL_q (wants_none rfl) rfl (ex_pick_true rfl h3 rfl) ?_
      refine JL_nil ?_
      refine N_then ?_
      refine J_if rfl (fun h8 => ?_) (fun h8 => ?_)
      · refine J_skip ?_
        refine N_then ?_
        refine J_block ?_
        refine J_region ?_
        refine JL_q (wants_none rfl) rfl (ex_move rfl) ?_
        refine JL_q (wants_none rfl) rfl (ex_sub rfl rfl) ?_
        refine JL_q (wants_none rfl) rfl (ex_assign rfl) ?_
        refine JL_nil ?_
        refine N_block ?_
        exact N_next' () ⟨rfl, rfl, trivial⟩ [1] rfl rfl
      · refine J_exit ?_
        refine N_then_exit ?_
        exact N_break' () ⟨rfl, rfl, trivial⟩ [1] rfl rfl
    · refine JL_passed rfl rfl rfl h3 ?_
      refine JL_passed rfl rfl rfl h3 ?_
      refine JL_passed rfl rfl rfl h3 ?_
      refine JL_passed rfl rfl rfl h3 ?_
      refine JL_passed rfl rfl rfl h3 ?_
      refine JL_passed rfl rfl rfl h3 ?_
      refine JL_q (wants_none rfl) rfl (ex_pick_false rfl h3 rfl) ?_
      refine JL_nil ?_
      refine N_then ?_
      refine J_if_false rfl rfl ?_
      refine J_exit ?_
      refine N_then_exit ?_
      exact N_break' () ⟨rfl, rfl, trivial⟩ [0] rfl rfl
  · refine N_then ?_
    refine J_seq ?_
    refine J_region ?_
    refine JL_q (wants_none rfl) rfl (ex_move rfl) ?_
    refine JL_q (wants_none rfl) rfl (ex_move rfl) ?_
    refine JL_bnd fun z9 hz10 => ?_
    refine JL_st (wants_none rfl) rfl (st_slice 0 Try.underlying25 ti_2 rfl rfl rfl rfl hz10) (fun v11 => ?_)
    refine JL_bnd fun r12 hr13 => ?_
    refine JL_call (wants_none rfl) rfl Try.call65 rfl (Ca_self (fun _ => rfl) fun w hh => c_spec_l00Own _ w (fun _ hk => hk.elim) _ _ (hh.rd0 0 rfl) _ hr13) (fun x14 => ?_)
    refine JL_q (wants_none rfl) rfl (ex_assign rfl) ?_
    refine JL_nil ?_
    refine N_then ?_
    refine J_ret ?_
    exact N_ret1 rfl (rv_tmp rfl) (fun w hh => ⟨x14, rfl, hh.sel [0] rfl⟩)

set_option maxHeartbeats 40000000 in
theorem c_spec_l05Push (A : Nat → Prop) (w : World) (hA : ∀ k, A k → k < w.heap.size) (p0 : Int) (v1_ : Value) (p1 : (List Int)) (hp1 : Rd A w v1_ p1) (r : (List Int)) (hr : F_spec_l05Push p0 p1 = some r) :
    Con Try.prog 52 [.int .i64 p0, v1_] A w (fun x_ : Value => x_) (fun x_ => [.ow 2 x_ r]) := by
  refine Con_of (v := fun (r : (List Int)) (x_ : Value) => x_) (fs := fun r x_ => [.ow 2 x_ r]) Try.func52 rfl Try.ntmps52 rfl ((SH.start hA).start_rd rfl hp1) rfl ?_ hr
  unfold F_spec_l05Push
  refine J_seq ?_
  refine J_region ?_
  refine JL_q (wants_none rfl) rfl (ex_assign rfl) ?_
  refine JL_nil ?_
  refine N_then ?_
  refine J_seq ?_
  refine J_region ?_
  refine JL_q (wants_none rfl) rfl (ex_move rfl) ?_
  refine JL_st (wants_none rfl) rfl (st_buildSlice (vs := [.int .i64 p0]) ([p0] : List Int) Try.underlying25 ti_2 zi_2 rfl rfl rfl (fun w hh => ⟨(Rd.mk_int _ _ _), trivial⟩)) (fun b1 => ?_)
  refine JL_q (wants_none rfl) rfl (ex_move rfl) ?_
  refine JL_bnd fun z2 hz3 => ?_
  refine JL_st (wants_none rfl) rfl (st_append 0 Try.underlying25 ti_2 zi_2 rfl bi_2 rfl rfl rfl rfl (fun w hh => hh.src_rd 1 rfl) hz3) (fun v4 => ?_)
  refine JL_bnd fun r5 hr6 => ?_
  refine JL_call (wants_none rfl) rfl Try.call66 rfl (Ca_self (fun _ => rfl) fun w hh => c_spec_l05Trim _ w (fun _ hk => hk.elim) _ _ (hh.ow0 0 rfl) _ hr6) (fun x7 => ?_)
  refine JL_q (wants_none rfl) rfl (ex_assign rfl) ?_
  refine JL_nil ?_
  refine N_then ?_
  refine J_ret ?_
  exact N_ret1 rfl (rv_tmp rfl) (fun w hh => ⟨x7, rfl, hh.sel [0] rfl⟩)

set_option maxHeartbeats 40000000 in
theorem c_spec_l05Step (A : Nat → Prop) (w : World) (hA : ∀ k, A k → k < w.heap.size) (v0_ : Value) (p0 : GMachine) (hp0 : RdA A w.heap.size w v0_ p0) (v1_ : Value) (p1 : GConfig) (hp1 : RdA A w.heap.size w v1_ p1) (r : GConfig × Bool) (hr : F_spec_l05Step p0 p1 = some r) :
    Con Try.prog 27 [v0_, v1_] A w (fun x_ : Value × Value => .tuple #[.agg #[.int .i64 r.1.State, x_.1, x_.2], .bool r.2]) (fun x_ => [.ow 2 x_.1 r.1.Left, .ow 2 x_.2 r.1.Right]) := by
  refine Con_of (v := fun (r : GConfig × Bool) (x_ : Value × Value) => .tuple #[.agg #[.int .i64 r.1.State, x_.1, x_.2], .bool r.2]) (fs := fun r x_ => [.ow 2 x_.1 r.1.Left, .ow 2 x_.2 r.1.Right]) Try.func27 rfl Try.ntmps27 rfl (((SH.start hA).start_pa' rfl hp0).start_pa' rfl hp1) rfl ?_ hr
  unfold F_spec_l05Step
  refine J_seq ?_
  refine J_region ?_
  refine JL_st (wants_none rfl) rfl (st_alloc zi_37 rfl) (fun b1 => ?_)
  refine JL_q (wants_none rfl) rfl (ex_assign rfl) ?_
  refine JL_nil ?_
  refine N_then ?_
  refine J_seq ?_
  refine J_draw [] (by kernel_rfl) ?_
  refine JP_take (i := 0) [0, 1, 2] [] rfl (by kernel_rfl) (by kernel_rfl) (by kernel_rfl) rfl rfl (wants_none rfl) rfl (ex_move rfl) ?_
  refine JP_take (i := 1) [0, 1, 2] [] rfl (by kernel_rfl) (by kernel_rfl) (by kernel_rfl) rfl rfl (wants_none rfl) rfl (ex_nilCheck_pa 2 rfl rfl) ?_
  refine JP_sq (i := 2) [] rfl (by kernel_rfl) (by kernel_rfl) (by kernel_rfl) rfl (wants_none rfl) rfl (sq_field_pa 2 (GMachine.at_Rules _) fi_35_2 rfl rfl rfl) (fun q2 => ?_)
  refine JP_sq (i := 3) [] rfl (by kernel_rfl) (by kernel_rfl) (by kernel_rfl) rfl (wants_none rfl) rfl (sq_load_pa_o 0 (opens_sl _) ti_33 rfl rfl) (fun v3 => ?_)
  refine JP_take (i := 4) [0, 1, 2, 3, 4] [] rfl (by kernel_rfl) (by kernel_rfl) (by kernel_rfl) rfl rfl (wants_none rfl) rfl (ex_move rfl) ?_
  refine JP_take (i := 5) [0, 1, 2, 3, 4] [] rfl (by kernel_rfl) (by kernel_rfl) (by kernel_rfl) rfl rfl (wants_none rfl) rfl (ex_move rfl) ?_
  refine JP_go [0, 1, 2, 3, 4] [] rfl rfl rfl (fun w5 h1_6 hp4 => ?_)
  refine JD_bnd fun r7 hr8 => ?_
  refine JD_two (i := 6) (j := 9) (by kernel_rfl) ?_ ?_
  · refine JO_call rfl (wants_none rfl) rfl Try.call26 rfl (Ca_of0 fun w hh => c_spec_l05At _ w (fun _ hk => hk.elim) _ _ (hh.pa0 4 rfl) _ _ (hh.pa0 3 rfl) _ hr8) (fun _ => ?_)
    refine JD_bnd fun y9 hy10 => ?_
    refine JD_sq (i := 7) (fs := fun q11 => [.pt q11 y9]) [] h1_6 rfl rfl (by kernel_rfl) (by kernel_rfl) (by kernel_rfl) (wants_none rfl) rfl (sq_index 0 Try.underlying33 ti_60 rfl rfl rfl hy10) (fun _ => rfl) (fun q11 h1_12 => ?_)
    refine JD_sq (i := 8) [] h1_12 rfl rfl (by kernel_rfl) (by kernel_rfl) (by kernel_rfl) (wants_none rfl) rfl (sq_load_pt_o 0 (GRule.opens _) ti_60 rfl rfl) (fun _ => rfl) (fun _ h1_14 => ?_)
    refine JD_one (i := 9) (by kernel_rfl) ?_
    refine JO_st rfl (wants_none rfl) rfl (st_alloc zi_60 rfl) (fun _ hk => nomatch hk) (fun b15 => ?_)
    refine JD_one (i := 10) (by kernel_rfl) ?_
    refine JO_sk2 0 [] [0, 1, 2, 3, 4, 5] [1, 2, 3, 4, 5, 6] rfl rfl rfl rfl rfl rfl (wants_none rfl) (sk_store_bx' 0 ti_60 rfl rfl (fun w hh => (cv_aggs ⟨cv_int, cv_int, cv_int, trivial⟩)) rfl rfl rfl rfl) (fun _ hk => hk) ?_
    refine JD_done (by kernel_rfl) ?_
    refine N_then ?_
    refine J_seq ?_
    refine J_region ?_
    refine JL_q (wants_none rfl) rfl (ex_fieldAddr fi_60_2 rfl rfl) ?_
    refine JL_q (wants_none rfl) rfl (ex_load_bx 0 ti_2 rfl rfl rfl) ?_
    refine JL_q (wants_none rfl) rfl (ex_build si_37 rfl (.cons fi_37_0 rfl rfl .nil) (fun w hh => ⟨cv_int, trivial⟩)) ?_
    refine JL_st (wants_none rfl) rfl (st_alloc zi_37 rfl) (fun b16 => ?_)
    refine JL_sk (wants_none rfl) (sk_store_bx' 0 ti_37 rfl rfl (fun w hh => (cv_aggs ⟨cv_int, cv_slice, cv_slice, trivial⟩)) rfl rfl rfl rfl) ?_
    refine JL_nil ?_
    refine N_then ?_
    refine J_seq ?_
    refine J_region ?_
    refine JL_q (wants_none rfl) rfl (ex_move rfl) ?_
    refine JL_q (wants_none rfl) rfl (ex_nilCheck_pa 6 rfl rfl) ?_
    refine JL_st (wants_none rfl) rfl (st_field_pa 6 (GConfig.at_Right _) fi_37_2 rfl rfl rfl) (fun q17 => ?_)
    refine JL_st (wants_none rfl) rfl (st_load_pa_o 0 (opens_sl _) ti_25 rfl rfl) (fun v18 => ?_)
    refine JL_bnd fun r19 hr20 => ?_
    refine JL_call (wants_none rfl) rfl Try.call51 rfl (Ca_self (fun _ => rfl) fun w hh => c_spec_l05Rest _ w (fun _ hk => hk.elim) _ _ (hh.rd0 0 rfl) _ hr20) (fun x21 => ?_)
    refine JL_q (wants_none rfl) rfl (ex_assign rfl) ?_
    refine JL_nil ?_
    refine N_then ?_
    refine J_seq ?_
    refine J_seq ?_
    refine J_region ?_
    refine JL_q (wants_none rfl) rfl (ex_fieldAddr fi_60_1 rfl rfl) ?_
    refine JL_q (wants_none rfl) rfl (ex_load_bx 4 ti_2 rfl rfl rfl) ?_
    refine JL_q (wants_none rfl) rfl (ex_gtr rfl rfl) ?_
    refine JL_nil ?_
    refine N_then ?_
    refine J_if rfl (fun h22 => ?_) (fun h22 => ?_)
    · refine J_seq ?_
      refine J_draw [3] (by kernel_rfl) ?_
      refine JP_take (i := 0) [0, 1, 2, 4, 5, 6, 7, 8, 9, 10] [3] rfl (by kernel_rfl) (by kernel_rfl) (by kernel_rfl) rfl rfl (wants_none rfl) rfl (ex_fieldAddr fi_60_0 rfl rfl) ?_
      refine JP_take (i := 1) [0, 1, 2, 4, 5, 6, 7, 8, 9, 10] [3] rfl (by kernel_rfl) (by kernel_rfl) (by kernel_rfl) rfl rfl (wants_none rfl) rfl (ex_load_bx 3 ti_2 rfl rfl rfl) ?_
      refine JP_take (i := 2) [0, 1, 2, 4, 5, 6, 7, 8, 9, 10] [3] rfl (by kernel_rfl) (by kernel_rfl) (by kernel_rfl) rfl rfl (wants_none rfl) rfl (ex_move rfl) ?_
      refine JP_take (i := 3) [0, 1, 2, 4, 5, 6, 7, 8, 9, 10] [3] rfl (by kernel_rfl) (by kernel_rfl) (by kernel_rfl) rfl rfl (wants_none rfl) rfl (ex_nilCheck_pa 8 rfl rfl) ?_
      refine JP_sq (i := 4) [3] rfl (by kernel_rfl) (by kernel_rfl) (by kernel_rfl) rfl (wants_none rfl) rfl (sq_field_pa 9 (GConfig.at_Left _) fi_37_1 rfl rfl rfl) (fun q23 => ?_)
      refine JP_sq (i := 5) [4] rfl (by kernel_rfl) (by kernel_rfl) (by kernel_rfl) rfl (wants_none rfl) rfl (sq_load_pa_o 0 (opens_sl _) ti_25 rfl rfl) (fun v24 => ?_)
      refine JP_go [0, 1, 2, 3, 4, 6, 7, 8, 9, 10, 11, 12] [5] rfl rfl rfl (fun w26 h1_27 hp25 => ?_)
      refine JD_bnd fun r28 hr29 => ?_
      refine JD_one (i := 6) (by kernel_rfl) ?_
      refine JO_call rfl (wants_none rfl) rfl Try.call52 rfl (Ca_self (fun _ => rfl) fun w hh => c_spec_l05Push _ w (fun _ hk => hk.elim) _ _ _ (hh.rd0 0 rfl) _ hr29) (fun x30 => ?_)
      refine JD_take (i := 7) hp25 rfl (by kernel_rfl) (by kernel_rfl) (by kernel_rfl) (wants_none rfl) rfl (ex_fieldAddr fi_37_1 rfl rfl) ?_
      refine JD_one (i := 8) (by kernel_rfl) ?_
      refine JO_sk rfl (wants_none rfl) (sk_store_bx' 6 ti_25 rfl rfl (fun w hh => (hh.cv_ow 0 rfl)) rfl rfl rfl rfl) (sub_bx 0 rfl) ?_
      refine JD_done (by kernel_rfl) ?_
      refine N_then ?_
      refine J_region ?_
      refine JL_q (wants_none rfl) rfl (ex_move rfl) ?_
      refine JL_q (wants_none rfl) rfl (ex_fieldAddr fi_37_2 rfl rfl) ?_
      refine JL_sk (wants_none rfl) (sk_store_bx' 6 ti_25 rfl rfl (fun w hh => (hh.cv_ow 3 rfl)) rfl rfl rfl rfl) ?_
      refine JL_nil ?_
      refine N_then ?_
      refine J_seq ?_
      refine J_draw [11] (by kernel_rfl) ?_
      refine JP_take (i := 0) [0, 1, 2, 3, 4, 5, 6, 7, 8, 9, 10, 12, 13] [11] rfl (by kernel_rfl) (by kernel_rfl) (by kernel_rfl) rfl rfl (wants_none rfl) rfl (ex_load_bx_agg 6 ti_37 rfl rfl rfl rfl) ?_
      refine JP_take (i := 1) [0, 1, 2, 3, 4, 5, 6, 7, 8, 9, 10, 12, 13] [11] rfl (by kernel_rfl) (by kernel_rfl) (by kernel_rfl) rfl rfl (wants_none rfl) rfl (ex_fieldAddr fi_37_1 rfl rfl) ?_
      refine JP_take (i := 2) [0, 1, 2, 3, 4, 5, 6, 7, 8, 9, 10, 12, 13] [11] rfl (by kernel_rfl) (by kernel_rfl) (by kernel_rfl) rfl rfl (wants_none rfl) rfl (ex_load_bx 6 ti_25 rfl rfl rfl) ?_
      refine JP_take (i := 3) [0, 1, 2, 3, 4, 5, 6, 7, 8, 9, 10, 12, 13] [11] rfl (by kernel_rfl) (by kernel_rfl) (by kernel_rfl) rfl rfl (wants_none rfl) rfl (ex_len_ow 0 Try.underlying25 rfl rfl) ?_
      refine JP_take (i := 4) [0, 1, 2, 3, 4, 5, 6, 7, 8, 9, 10, 12, 13] [11] rfl (by kernel_rfl) (by kernel_rfl) (by kernel_rfl) rfl rfl (wants_none rfl) rfl (ex_leq rfl rfl) ?_
      refine JP_take (i := 5) [0, 1, 2, 3, 4, 5, 6, 7, 8, 9, 10, 12, 13] [11] rfl (by kernel_rfl) (by kernel_rfl) (by kernel_rfl) rfl rfl (wants_none rfl) rfl (ex_move rfl) ?_
      refine JP_cond (fun h31 => ?_) (fun h31 => ?_)
      · refine JP_take (i := 6) [0, 1, 2, 3, 4, 5, 6, 7, 8, 9, 10, 12, 13] [11] rfl (by kernel_rfl) (by kernel_rfl) (by kernel_rfl) rfl rfl (wants_some rfl rfl rfl h31) rfl (ex_fieldAddr fi_37_2 rfl rfl) ?_
        refine JP_take (i := 7) [0, 1, 2, 3, 4, 5, 6, 7, 8, 9, 10, 12, 13] [11] rfl (by kernel_rfl) (by kernel_rfl) (by kernel_rfl) rfl rfl (wants_some rfl rfl rfl h31) rfl (ex_load_bx 6 ti_25 rfl rfl rfl) ?_
        refine JP_take (i := 8) [0, 1, 2, 3, 4, 5, 6, 7, 8, 9, 10, 12, 13] [11] rfl (by kernel_rfl) (by kernel_rfl) (by kernel_rfl) rfl rfl (wants_some rfl rfl rfl h31) rfl (ex_len_ow 3 Try.underlying25 rfl rfl) ?_
        refine JP_take (i := 9) [0, 1, 2, 3, 4, 5, 6, 7, 8, 9, 10, 12, 13] [11] rfl (by kernel_rfl) (by kernel_rfl) (by kernel_rfl) rfl rfl (wants_some rfl rfl rfl h31) rfl (ex_leq rfl rfl) ?_
        refine JP_take (i := 10) [0, 1, 2, 3, 4, 5, 6, 7, 8, 9, 10, 12, 13] [11] rfl (by kernel_rfl) (by kernel_rfl) (by kernel_rfl) rfl rfl (wants_none rfl) rfl (ex_pick_true rfl h31 rfl) ?_
        refine JP_go [0, 1, 2, 3, 4, 5, 6, 7, 8, 9, 10, 12, 13] [11] rfl rfl rfl (fun w33 h1_34 hp32 => ?_)
        refine JD_one (i := 11) (by kernel_rfl) ?_
        refine JO_sk rfl (wants_none rfl) (sk_store_bx' 11 ti_37 rfl rfl (fun w hh => (cv_aggs ⟨cv_int, (hh.cv_ow 0 rfl), (hh.cv_ow 3 rfl), trivial⟩)) rfl rfl rfl rfl) (sub_bx 0 rfl) ?_
        refine JD_take (i := 12) hp32 rfl (by kernel_rfl) (by kernel_rfl) (by kernel_rfl) (wants_none rfl) rfl (ex_assign rfl) ?_
        refine JD_done (by kernel_rfl) ?_
        refine N_then ?_
        refine J_ret ?_
        exact N_ret2 rfl (rv_cell 11 rfl rfl ti_37 rfl) (rv_tmp rfl) (fun w hh => ⟨(x30, x21), rfl, hh.sel [0, 3] rfl⟩)
      · refine JP_pass (i := 6) rfl (by kernel_rfl) (by kernel_rfl) (by kernel_rfl) rfl rfl h31 rfl ?_
        refine JP_pass (i := 7) rfl (by kernel_rfl) (by kernel_rfl) (by kernel_rfl) rfl rfl h31 rfl ?_
        refine JP_pass (i := 8) rfl (by kernel_rfl) (by kernel_rfl) (by kernel_rfl) rfl rfl h31 rfl ?_
        refine JP_pass (i := 9) rfl (by kernel_rfl) (by kernel_rfl) (by kernel_rfl) rfl rfl h31 rfl ?_
        refine JP_take (i := 10) [0, 1, 2, 3, 4, 5, 6, 7, 8, 9, 10, 12, 13] [11] rfl (by kernel_rfl) (by kernel_rfl) (by kernel_rfl) rfl rfl (wants_none rfl) rfl (ex_pick_false rfl h31 rfl) ?_
        refine JP_go [0, 1, 2, 3, 4, 5, 6, 7, 8, 9, 10, 12, 13] [11] rfl rfl rfl (fun w36 h1_37 hp35 => ?_)
        refine JD_one (i := 11) (by kernel_rfl) ?_
        refine JO_sk rfl (wants_none rfl) (sk_store_bx' 11 ti_37 rfl rfl (fun w hh => (cv_aggs ⟨cv_int, (hh.cv_ow 0 rfl), (hh.cv_ow 3 rfl), trivial⟩)) rfl rfl rfl rfl) (sub_bx 0 rfl) ?_
        refine JD_take (i := 12) hp35 rfl (by kernel_rfl) (by kernel_rfl) (by kernel_rfl) (wants_none rfl) rfl (ex_assign rfl) ?_
        refine JD_done (by kernel_rfl) ?_
        refine N_then ?_
        refine J_ret ?_
        exact N_ret2 rfl (rv_cell 11 rfl rfl ti_37 rfl) (rv_tmp rfl) (fun w hh => ⟨(x30, x21), rfl, hh.sel [0, 3] rfl⟩)
    · refine J_seq ?_
      refine J_region ?_
      refine JL_q (wants_none rfl) rfl (ex_assign rfl) ?_
      refine JL_nil ?_
      refine N_then ?_
      refine J_seq ?_
      refine J_cut' (S' := Int) (G' := Unit) (fun s38 _ => [(1, v1_), (4, .pointer (some ⟨b1, 0, none⟩)), (6, .pointer (some ⟨b15, 0, none⟩)), (7, .pointer (some ⟨b16, 0, none⟩)), (8, x21), (9, .int .i64 s38)]) (fun s38 _ => [.pa v1_ p1, .bx b1 37 [.int .i64 0, .slice none 0 0, .slice none 0 0], .bx b15 60 [.int .i64 y9.Write, .int .i64 y9.Move, .int .i64 y9.Next], .bx b16 37 [.int .i64 y9.Next, .slice none 0 0, .slice none 0 0], .ow 2 x21 r19]) ?_ (fun s38 g39 => ?_)
      · refine J_seq ?_
        refine J_region ?_
        refine JL_q (wants_none rfl) rfl (ex_move rfl) ?_
        refine JL_q (wants_none rfl) rfl (ex_nilCheck_pa 9 rfl rfl) ?_
        refine JL_st (wants_none rfl) rfl (st_field_pa 9 (GConfig.at_Left _) fi_37_1 rfl rfl rfl) (fun q40 => ?_)
        refine JL_st (wants_none rfl) rfl (st_load_pa_o 0 (opens_sl _) ti_25 rfl rfl) (fun v41 => ?_)
        refine JL_q (wants_none rfl) rfl (ex_len_rd 0 Try.underlying25 rfl rfl) ?_
        refine JL_q (wants_none rfl) rfl (ex_gtr rfl rfl) ?_
        refine JL_nil ?_
        refine N_then ?_
        refine J_if rfl (fun h42 => ?_) (fun h42 => ?_)
        · refine J_region ?_
          refine JL_q (wants_none rfl) rfl (ex_move rfl) ?_
          refine JL_q (wants_none rfl) rfl (ex_nilCheck_pa 11 rfl rfl) ?_
          refine JL_st (wants_none rfl) rfl (st_field_pa 11 (GConfig.at_Left _) fi_37_1 rfl rfl rfl) (fun q43 => ?_)
          refine JL_st (wants_none rfl) rfl (st_load_pa_o 0 (opens_sl _) ti_25 rfl rfl) (fun v44 => ?_)
          refine JL_bnd fun y45 hy46 => ?_
          refine JL_st (wants_none rfl) rfl (st_index 0 Try.underlying25 ti_2 rfl rfl rfl hy46) (fun q47 => ?_)
          refine JL_st (wants_none rfl) rfl (st_load_pt_o 0 (opens_int _) ti_2 rfl rfl) (fun _ => ?_)
          refine JL_q (wants_none rfl) rfl (ex_assign rfl) ?_
          refine JL_nil ?_
          exact N_meet' () ⟨rfl, rfl, rfl, rfl, rfl, rfl, trivial⟩ [14, 13, 9, 8, 5] rfl rfl
        · refine J_skip ?_
          exact N_meet' () ⟨rfl, rfl, rfl, rfl, rfl, rfl, trivial⟩ [11, 10, 6, 5, 2] rfl rfl
      · refine N_then ?_
        refine J_seq ?_
        refine J_region ?_
        refine JL_q (wants_none rfl) rfl (ex_move rfl) ?_
        refine JL_q (wants_none rfl) rfl (ex_fieldAddr fi_60_0 rfl rfl) ?_
        refine JL_q (wants_none rfl) rfl (ex_load_bx 2 ti_2 rfl rfl rfl) ?_
        refine JL_q (wants_none rfl) rfl (ex_move rfl) ?_
        refine JL_bnd fun r49 hr50 => ?_
        refine JL_call (wants_none rfl) rfl Try.call52 rfl (Ca_self (fun _ => rfl) fun w hh => c_spec_l05Push _ w (fun _ hk => hk.elim) _ _ _ (hh.ow0 4 rfl) _ hr50) (fun x51 => ?_)
        refine JL_bnd fun r52 hr53 => ?_
        refine JL_call (wants_none rfl) rfl Try.call52 rfl (Ca_self (fun _ => rfl) fun w hh => c_spec_l05Push _ w (fun _ hk => hk.elim) _ _ _ (hh.ow0 0 rfl) _ hr53) (fun x54 => ?_)
        refine JL_q (wants_none rfl) rfl (ex_fieldAddr fi_37_2 rfl rfl) ?_
        refine JL_sk (wants_none rfl) (sk_store_bx' 5 ti_25 rfl rfl (fun w hh => (hh.cv_ow 0 rfl)) rfl rfl rfl rfl) ?_
        refine JL_nil ?_
        refine N_then ?_
        refine J_region ?_
        refine JL_q (wants_none rfl) rfl (ex_move rfl) ?_
        refine JL_q (wants_none rfl) rfl (ex_nilCheck_pa 2 rfl rfl) ?_
        refine JL_st (wants_none rfl) rfl (st_field_pa 2 (GConfig.at_Left _) fi_37_1 rfl rfl rfl) (fun q55 => ?_)
        refine JL_st (wants_none rfl) rfl (st_load_pa_o 0 (opens_sl _) ti_25 rfl rfl) (fun v56 => ?_)
        refine JL_bnd fun r57 hr58 => ?_
        refine JL_call (wants_none rfl) rfl Try.call51 rfl (Ca_self (fun _ => rfl) fun w hh => c_spec_l05Rest _ w (fun _ hk => hk.elim) _ _ (hh.rd0 0 rfl) _ hr58) (fun x59 => ?_)
        refine JL_q (wants_none rfl) rfl (ex_fieldAddr fi_37_1 rfl rfl) ?_
        refine JL_sk (wants_none rfl) (sk_store_bx' 8 ti_25 rfl rfl (fun w hh => (hh.cv_ow 0 rfl)) rfl rfl rfl rfl) ?_
        refine JL_nil ?_
        refine N_then ?_
        refine J_seq ?_
        refine J_draw [6] (by kernel_rfl) ?_
        refine JP_take (i := 0) [0, 1, 2, 3, 4, 5, 7, 8, 9] [6] rfl (by kernel_rfl) (by kernel_rfl) (by kernel_rfl) rfl rfl (wants_none rfl) rfl (ex_load_bx_agg 7 ti_37 rfl rfl rfl rfl) ?_
        refine JP_take (i := 1) [0, 1, 2, 3, 4, 5, 7, 8, 9] [6] rfl (by kernel_rfl) (by kernel_rfl) (by kernel_rfl) rfl rfl (wants_none rfl) rfl (ex_fieldAddr fi_37_1 rfl rfl) ?_
        refine JP_take (i := 2) [0, 1, 2, 3, 4, 5, 7, 8, 9] [6] rfl (by kernel_rfl) (by kernel_rfl) (by kernel_rfl) rfl rfl (wants_none rfl) rfl (ex_load_bx 7 ti_25 rfl rfl rfl) ?_
        refine JP_take (i := 3) [0, 1, 2, 3, 4, 5, 7, 8, 9] [6] rfl (by kernel_rfl) (by kernel_rfl) (by kernel_rfl) rfl rfl (wants_none rfl) rfl (ex_len_ow 0 Try.underlying25 rfl rfl) ?_
        refine JP_take (i := 4) [0, 1, 2, 3, 4, 5, 7, 8, 9] [6] rfl (by kernel_rfl) (by kernel_rfl) (by kernel_rfl) rfl rfl (wants_none rfl) rfl (ex_leq rfl rfl) ?_
        refine JP_take (i := 5) [0, 1, 2, 3, 4, 5, 7, 8, 9] [6] rfl (by kernel_rfl) (by kernel_rfl) (by kernel_rfl) rfl rfl (wants_none rfl) rfl (ex_move rfl) ?_
        refine JP_cond (fun h60 => ?_) (fun h60 => ?_)
        · refine JP_take (i := 6) [0, 1, 2, 3, 4, 5, 7, 8, 9] [6] rfl (by kernel_rfl) (by kernel_rfl) (by kernel_rfl) rfl rfl (wants_some rfl rfl rfl h60) rfl (ex_fieldAddr fi_37_2 rfl rfl) ?_
          refine JP_take (i := 7) [0, 1, 2, 3, 4, 5, 7, 8, 9] [6] rfl (by kernel_rfl) (by kernel_rfl) (by kernel_rfl) rfl rfl (wants_some rfl rfl rfl h60) rfl (ex_load_bx 7 ti_25 rfl rfl rfl) ?_
          refine JP_take (i := 8) [0, 1, 2, 3, 4, 5, 7, 8, 9] [6] rfl (by kernel_rfl) (by kernel_rfl) (by kernel_rfl) rfl rfl (wants_some rfl rfl rfl h60) rfl (ex_len_ow 3 Try.underlying25 rfl rfl) ?_
          refine JP_take (i := 9) [0, 1, 2, 3, 4, 5, 7, 8, 9] [6] rfl (by kernel_rfl) (by kernel_rfl) (by kernel_rfl) rfl rfl (wants_some rfl rfl rfl h60) rfl (ex_leq rfl rfl) ?_
          refine JP_take (i := 10) [0, 1, 2, 3, 4, 5, 7, 8, 9] [6] rfl (by kernel_rfl) (by kernel_rfl) (by kernel_rfl) rfl rfl (wants_none rfl) rfl (ex_pick_true rfl h60 rfl) ?_
          refine JP_go [0, 1, 2, 3, 4, 5, 7, 8, 9] [6] rfl rfl rfl (fun w62 h1_63 hp61 => ?_)
          refine JD_one (i := 11) (by kernel_rfl) ?_
          refine JO_sk rfl (wants_none rfl) (sk_store_bx' 6 ti_37 rfl rfl (fun w hh => (cv_aggs ⟨cv_int, (hh.cv_ow 0 rfl), (hh.cv_ow 3 rfl), trivial⟩)) rfl rfl rfl rfl) (sub_bx 0 rfl) ?_
          refine JD_take (i := 12) hp61 rfl (by kernel_rfl) (by kernel_rfl) (by kernel_rfl) (wants_none rfl) rfl (ex_assign rfl) ?_
          refine JD_done (by kernel_rfl) ?_
          refine N_then ?_
          refine J_ret ?_
          exact N_ret2 rfl (rv_cell 6 rfl rfl ti_37 rfl) (rv_tmp rfl) (fun w hh => ⟨(x59, x54), rfl, hh.sel [0, 3] rfl⟩)
        · refine JP_pass (i := 6) rfl (by kernel_rfl) (by kernel_rfl) (by kernel_rfl) rfl rfl h60 rfl ?_
          refine JP_pass (i := 7) rfl (by kernel_rfl) (by kernel_rfl) (by kernel_rfl) rfl rfl h60 rfl ?_
          refine JP_pass (i := 8) rfl (by kernel_rfl) (by kernel_rfl) (by kernel_rfl) rfl rfl h60 rfl ?_
          refine JP_pass (i := 9) rfl (by kernel_rfl) (by kernel_rfl) (by kernel_rfl) rfl rfl h60 rfl ?_
          refine JP_take (i := 10) [0, 1, 2, 3, 4, 5, 7, 8, 9] [6] rfl (by kernel_rfl) (by kernel_rfl) (by kernel_rfl) rfl rfl (wants_none rfl) rfl (ex_pick_false rfl h60 rfl) ?_
          refine JP_go [0, 1, 2, 3, 4, 5, 7, 8, 9] [6] rfl rfl rfl (fun w65 h1_66 hp64 => ?_)
          refine JD_one (i := 11) (by kernel_rfl) ?_
          refine JO_sk rfl (wants_none rfl) (sk_store_bx' 6 ti_37 rfl rfl (fun w hh => (cv_aggs ⟨cv_int, (hh.cv_ow 0 rfl), (hh.cv_ow 3 rfl), trivial⟩)) rfl rfl rfl rfl) (sub_bx 0 rfl) ?_
          refine JD_take (i := 12) hp64 rfl (by kernel_rfl) (by kernel_rfl) (by kernel_rfl) (wants_none rfl) rfl (ex_assign rfl) ?_
          refine JD_done (by kernel_rfl) ?_
          refine N_then ?_
          refine J_ret ?_
          exact N_ret2 rfl (rv_cell 6 rfl rfl ti_37 rfl) (rv_tmp rfl) (fun w hh => ⟨(x59, x54), rfl, hh.sel [0, 3] rfl⟩)
  · refine JO_st rfl (wants_none rfl) rfl (st_alloc zi_60 rfl) (fun _ hk => nomatch hk) (fun b67 => ?_)
    refine JD_one (i := 6) (by kernel_rfl) ?_
    refine JO_call rfl (wants_none rfl) rfl Try.call26 rfl (Ca_of0 fun w hh => c_spec_l05At _ w (fun _ hk => hk.elim) _ _ (hh.pa0 5 rfl) _ _ (hh.pa0 4 rfl) _ hr8) (fun _ => ?_)
    refine JD_bnd fun y68 hy69 => ?_
    refine JD_sq (i := 7) (fs := fun q70 => [.pt q70 y68]) [] h1_6 rfl rfl (by kernel_rfl) (by kernel_rfl) (by kernel_rfl) (wants_none rfl) rfl (sq_index 0 Try.underlying33 ti_60 rfl rfl rfl hy69) (fun _ => rfl) (fun q70 h1_71 => ?_)
    refine JD_sq (i := 8) [] h1_71 rfl rfl (by kernel_rfl) (by kernel_rfl) (by kernel_rfl) (wants_none rfl) rfl (sq_load_pt_o 0 (GRule.opens _) ti_60 rfl rfl) (fun _ => rfl) (fun _ h1_73 => ?_)
    refine JD_one (i := 10) (by kernel_rfl) ?_
    refine JO_sk2 1 [] [0, 1, 2, 3, 4, 5] [0, 2, 3, 4, 5, 6] rfl rfl rfl rfl rfl rfl (wants_none rfl) (sk_store_bx' 1 ti_60 rfl rfl (fun w hh => (cv_aggs ⟨cv_int, cv_int, cv_int, trivial⟩)) rfl rfl rfl rfl) (fun _ hk => hk) ?_
    refine JD_done (by kernel_rfl) ?_
    refine N_then ?_
    refine J_seq ?_
    refine J_region ?_
    refine JL_q (wants_none rfl) rfl (ex_fieldAddr fi_60_2 rfl rfl) ?_
    refine JL_q (wants_none rfl) rfl (ex_load_bx 1 ti_2 rfl rfl rfl) ?_
    refine JL_q (wants_none rfl) rfl (ex_build si_37 rfl (.cons fi_37_0 rfl rfl .nil) (fun w hh => ⟨cv_int, trivial⟩)) ?_
    refine JL_st (wants_none rfl) rfl (st_alloc zi_37 rfl) (fun b74 => ?_)
    refine JL_sk (wants_none rfl) (sk_store_bx' 0 ti_37 rfl rfl (fun w hh => (cv_aggs ⟨cv_int, cv_slice, cv_slice, trivial⟩)) rfl rfl rfl rfl) ?_
    refine JL_nil ?_
    refine N_then ?_
    refine J_seq ?_
    refine J_region ?_
    refine JL_q (wants_none rfl) rfl (ex_move rfl) ?_
    refine JL_q (wants_none rfl) rfl (ex_nilCheck_pa 6 rfl rfl) ?_
    refine JL_st (wants_none rfl) rfl (st_field_pa 6 (GConfig.at_Right _) fi_37_2 rfl rfl rfl) (fun q75 => ?_)
    refine JL_st (wants_none rfl) rfl (st_load_pa_o 0 (opens_sl _) ti_25 rfl rfl) (fun v76 => ?_)
    refine JL_bnd fun r77 hr78 => ?_
    refine JL_call (wants_none rfl) rfl Try.call51 rfl (Ca_self (fun _ => rfl) fun w hh => c_spec_l05Rest _ w (fun _ hk => hk.elim) _ _ (hh.rd0 0 rfl) _ hr78) (fun x79 => ?_)
    refine JL_q (wants_none rfl) rfl (ex_assign rfl) ?_
    refine JL_nil ?_
    refine N_then ?_
    refine J_seq ?_
    refine J_seq ?_
    refine J_region ?_
    refine JL_q (wants_none rfl) rfl (ex_fieldAddr fi_60_1 rfl rfl) ?_
    refine JL_q (wants_none rfl) rfl (ex_load_bx 5 ti_2 rfl rfl rfl) ?_
    refine JL_q (wants_none rfl) rfl (ex_gtr rfl rfl) ?_
    refine JL_nil ?_
    refine N_then ?_
    refine J_if rfl (fun h80 => ?_) (fun h80 => ?_)
    · refine J_seq ?_
      refine J_draw [3] (by kernel_rfl) ?_
      refine JP_take (i := 0) [0, 1, 2, 4, 5, 6, 7, 8, 9, 10] [3] rfl (by kernel_rfl) (by kernel_rfl) (by kernel_rfl) rfl rfl (wants_none rfl) rfl (ex_fieldAddr fi_60_0 rfl rfl) ?_
      refine JP_take (i := 1) [0, 1, 2, 4, 5, 6, 7, 8, 9, 10] [3] rfl (by kernel_rfl) (by kernel_rfl) (by kernel_rfl) rfl rfl (wants_none rfl) rfl (ex_load_bx 4 ti_2 rfl rfl rfl) ?_
      refine JP_take (i := 2) [0, 1, 2, 4, 5, 6, 7, 8, 9, 10] [3] rfl (by kernel_rfl) (by kernel_rfl) (by kernel_rfl) rfl rfl (wants_none rfl) rfl (ex_move rfl) ?_
      refine JP_take (i := 3) [0, 1, 2, 4, 5, 6, 7, 8, 9, 10] [3] rfl (by kernel_rfl) (by kernel_rfl) (by kernel_rfl) rfl rfl (wants_none rfl) rfl (ex_nilCheck_pa 8 rfl rfl) ?_
      refine JP_sq (i := 4) [3] rfl (by kernel_rfl) (by kernel_rfl) (by kernel_rfl) rfl (wants_none rfl) rfl (sq_field_pa 9 (GConfig.at_Left _) fi_37_1 rfl rfl rfl) (fun q81 => ?_)
      refine JP_sq (i := 5) [4] rfl (by kernel_rfl) (by kernel_rfl) (by kernel_rfl) rfl (wants_none rfl) rfl (sq_load_pa_o 0 (opens_sl _) ti_25 rfl rfl) (fun v82 => ?_)
      refine JP_go [0, 1, 2, 3, 4, 6, 7, 8, 9, 10, 11, 12] [5] rfl rfl rfl (fun w84 h1_85 hp83 => ?_)
      refine JD_bnd fun r86 hr87 => ?_
      refine JD_one (i := 6) (by kernel_rfl) ?_
      refine JO_call rfl (wants_none rfl) rfl Try.call52 rfl (Ca_self (fun _ => rfl) fun w hh => c_spec_l05Push _ w (fun _ hk => hk.elim) _ _ _ (hh.rd0 0 rfl) _ hr87) (fun x88 => ?_)
      refine JD_take (i := 7) hp83 rfl (by kernel_rfl) (by kernel_rfl) (by kernel_rfl) (wants_none rfl) rfl (ex_fieldAddr fi_37_1 rfl rfl) ?_
      refine JD_one (i := 8) (by kernel_rfl) ?_
      refine JO_sk rfl (wants_none rfl) (sk_store_bx' 6 ti_25 rfl rfl (fun w hh => (hh.cv_ow 0 rfl)) rfl rfl rfl rfl) (sub_bx 0 rfl) ?_
      refine JD_done (by kernel_rfl) ?_
      refine N_then ?_
      refine J_region ?_
      refine JL_q (wants_none rfl) rfl (ex_move rfl) ?_
      refine JL_q (wants_none rfl) rfl (ex_fieldAddr fi_37_2 rfl rfl) ?_
      refine JL_sk (wants_none rfl) (sk_store_bx' 6 ti_25 rfl rfl (fun w hh => (hh.cv_ow 3 rfl)) rfl rfl rfl rfl) ?_
      refine JL_nil ?_
      refine N_then ?_
      refine J_seq ?_
      refine J_draw [11] (by kernel_rfl) ?_
      refine JP_take (i := 0) [0, 1, 2, 3, 4, 5, 6, 7, 8, 9, 10, 12, 13] [11] rfl (by kernel_rfl) (by kernel_rfl) (by kernel_rfl) rfl rfl (wants_none rfl) rfl (ex_load_bx_agg 6 ti_37 rfl rfl rfl rfl) ?_
      refine JP_take (i := 1) [0, 1, 2, 3, 4, 5, 6, 7, 8, 9, 10, 12, 13] [11] rfl (by kernel_rfl) (by kernel_rfl) (by kernel_rfl) rfl rfl (wants_none rfl) rfl (ex_fieldAddr fi_37_1 rfl rfl) ?_
      refine JP_take (i := 2) [0, 1, 2, 3, 4, 5, 6, 7, 8, 9, 10, 12, 13] [11] rfl (by kernel_rfl) (by kernel_rfl) (by kernel_rfl) rfl rfl (wants_none rfl) rfl (ex_load_bx 6 ti_25 rfl rfl rfl) ?_
      refine JP_take (i := 3) [0, 1, 2, 3, 4, 5, 6, 7, 8, 9, 10, 12, 13] [11] rfl (by kernel_rfl) (by kernel_rfl) (by kernel_rfl) rfl rfl (wants_none rfl) rfl (ex_len_ow 0 Try.underlying25 rfl rfl) ?_
      refine JP_take (i := 4) [0, 1, 2, 3, 4, 5, 6, 7, 8, 9, 10, 12, 13] [11] rfl (by kernel_rfl) (by kernel_rfl) (by kernel_rfl) rfl rfl (wants_none rfl) rfl (ex_leq rfl rfl) ?_
      refine JP_take (i := 5) [0, 1, 2, 3, 4, 5, 6, 7, 8, 9, 10, 12, 13] [11] rfl (by kernel_rfl) (by kernel_rfl) (by kernel_rfl) rfl rfl (wants_none rfl) rfl (ex_move rfl) ?_
      refine JP_cond (fun h89 => ?_) (fun h89 => ?_)
      · refine JP_take (i := 6) [0, 1, 2, 3, 4, 5, 6, 7, 8, 9, 10, 12, 13] [11] rfl (by kernel_rfl) (by kernel_rfl) (by kernel_rfl) rfl rfl (wants_some rfl rfl rfl h89) rfl (ex_fieldAddr fi_37_2 rfl rfl) ?_
        refine JP_take (i := 7) [0, 1, 2, 3, 4, 5, 6, 7, 8, 9, 10, 12, 13] [11] rfl (by kernel_rfl) (by kernel_rfl) (by kernel_rfl) rfl rfl (wants_some rfl rfl rfl h89) rfl (ex_load_bx 6 ti_25 rfl rfl rfl) ?_
        refine JP_take (i := 8) [0, 1, 2, 3, 4, 5, 6, 7, 8, 9, 10, 12, 13] [11] rfl (by kernel_rfl) (by kernel_rfl) (by kernel_rfl) rfl rfl (wants_some rfl rfl rfl h89) rfl (ex_len_ow 3 Try.underlying25 rfl rfl) ?_
        refine JP_take (i := 9) [0, 1, 2, 3, 4, 5, 6, 7, 8, 9, 10, 12, 13] [11] rfl (by kernel_rfl) (by kernel_rfl) (by kernel_rfl) rfl rfl (wants_some rfl rfl rfl h89) rfl (ex_leq rfl rfl) ?_
        refine JP_take (i := 10) [0, 1, 2, 3, 4, 5, 6, 7, 8, 9, 10, 12, 13] [11] rfl (by kernel_rfl) (by kernel_rfl) (by kernel_rfl) rfl rfl (wants_none rfl) rfl (ex_pick_true rfl h89 rfl) ?_
        refine JP_go [0, 1, 2, 3, 4, 5, 6, 7, 8, 9, 10, 12, 13] [11] rfl rfl rfl (fun w91 h1_92 hp90 => ?_)
        refine JD_one (i := 11) (by kernel_rfl) ?_
        refine JO_sk rfl (wants_none rfl) (sk_store_bx' 11 ti_37 rfl rfl (fun w hh => (cv_aggs ⟨cv_int, (hh.cv_ow 0 rfl), (hh.cv_ow 3 rfl), trivial⟩)) rfl rfl rfl rfl) (sub_bx 0 rfl) ?_
        refine JD_take (i := 12) hp90 rfl (by kernel_rfl) (by kernel_rfl) (by kernel_rfl) (wants_none rfl) rfl (ex_assign rfl) ?_
        refine JD_done (by kernel_rfl) ?_
        refine N_then ?_
        refine J_ret ?_
        exact N_ret2 rfl (rv_cell 11 rfl rfl ti_37 rfl) (rv_tmp rfl) (fun w hh => ⟨(x88, x79), rfl, hh.sel [0, 3] rfl⟩)
      · refine JP_pass (i := 6) rfl (by kernel_rfl) (by kernel_rfl) (by kernel_rfl) rfl rfl h89 rfl ?_
        refine JP_pass (i := 7) rfl (by kernel_rfl) (by kernel_rfl) (by kernel_rfl) rfl rfl h89 rfl ?_
        refine JP_pass (i := 8) rfl (by kernel_rfl) (by kernel_rfl) (by kernel_rfl) rfl rfl h89 rfl ?_
        refine JP_pass (i := 9) rfl (by kernel_rfl) (by kernel_rfl) (by kernel_rfl) rfl rfl h89 rfl ?_
        refine JP_take (i := 10) [0, 1, 2, 3, 4, 5, 6, 7, 8, 9, 10, 12, 13] [11] rfl (by kernel_rfl) (by kernel_rfl) (by kernel_rfl) rfl rfl (wants_none rfl) rfl (ex_pick_false rfl h89 rfl) ?_
        refine JP_go [0, 1, 2, 3, 4, 5, 6, 7, 8, 9, 10, 12, 13] [11] rfl rfl rfl (fun w94 h1_95 hp93 => ?_)
        refine JD_one (i := 11) (by kernel_rfl) ?_
        refine JO_sk rfl (wants_none rfl) (sk_store_bx' 11 ti_37 rfl rfl (fun w hh => (cv_aggs ⟨cv_int, (hh.cv_ow 0 rfl), (hh.cv_ow 3 rfl), trivial⟩)) rfl rfl rfl rfl) (sub_bx 0 rfl) ?_
        refine JD_take (i := 12) hp93 rfl (by kernel_rfl) (by kernel_rfl) (by kernel_rfl) (wants_none rfl) rfl (ex_assign rfl) ?_
        refine JD_done (by kernel_rfl) ?_
        refine N_then ?_
        refine J_ret ?_
        exact N_ret2 rfl (rv_cell 11 rfl rfl ti_37 rfl) (rv_tmp rfl) (fun w hh => ⟨(x88, x79), rfl, hh.sel [0, 3] rfl⟩)
    · refine J_seq ?_
      refine J_region ?_
      refine JL_q (wants_none rfl) rfl (ex_assign rfl) ?_
      refine JL_nil ?_
      refine N_then ?_
      refine J_seq ?_
      refine J_cut' (S' := Int) (G' := Unit) (fun s96 _ => [(1, v1_), (4, .pointer (some ⟨b1, 0, none⟩)), (6, .pointer (some ⟨b67, 0, none⟩)), (7, .pointer (some ⟨b74, 0, none⟩)), (8, x79), (9, .int .i64 s96)]) (fun s96 _ => [.pa v1_ p1, .bx b1 37 [.int .i64 0, .slice none 0 0, .slice none 0 0], .bx b67 60 [.int .i64 y68.Write, .int .i64 y68.Move, .int .i64 y68.Next], .bx b74 37 [.int .i64 y68.Next, .slice none 0 0, .slice none 0 0], .ow 2 x79 r77]) ?_ (fun s96 g97 => ?_)
      · refine J_seq ?_
        refine J_region ?_
        refine JL_q (wants_none rfl) rfl (ex_move rfl) ?_
        refine JL_q (wants_none rfl) rfl (ex_nilCheck_pa 9 rfl rfl) ?_
        refine JL_st (wants_none rfl) rfl (st_field_pa 9 (GConfig.at_Left _) fi_37_1 rfl rfl rfl) (fun q98 => ?_)
        refine JL_st (wants_none rfl) rfl (st_load_pa_o 0 (opens_sl _) ti_25 rfl rfl) (fun v99 => ?_)
        refine JL_q (wants_none rfl) rfl (ex_len_rd 0 Try.underlying25 rfl rfl) ?_
        refine JL_q (wants_none rfl) rfl (ex_gtr rfl rfl) ?_
        refine JL_nil ?_
        refine N_then ?_
        refine J_if rfl (fun h100 => ?_) (fun h100 => ?_)
        · refine J_region ?_
          refine JL_q (wants_none rfl) rfl (ex_move rfl) ?_
          refine JL_q (wants_none rfl) rfl (ex_nilCheck_pa 11 rfl rfl) ?_
          refine JL_st (wants_none rfl) rfl (st_field_pa 11 (GConfig.at_Left _) fi_37_1 rfl rfl rfl) (fun q101 => ?_)
          refine JL_st (wants_none rfl) rfl (st_load_pa_o 0 (opens_sl _) ti_25 rfl rfl) (fun v102 => ?_)
          refine JL_bnd fun y103 hy104 => ?_
          refine JL_st (wants_none rfl) rfl (st_index 0 Try.underlying25 ti_2 rfl rfl rfl hy104) (fun q105 => ?_)
          refine JL_st (wants_none rfl) rfl (st_load_pt_o 0 (opens_int _) ti_2 rfl rfl) (fun _ => ?_)
          refine JL_q (wants_none rfl) rfl (ex_assign rfl) ?_
          refine JL_nil ?_
          exact N_meet' () ⟨rfl, rfl, rfl, rfl, rfl, rfl, trivial⟩ [14, 13, 10, 8, 5] rfl rfl
        · refine J_skip ?_
          exact N_meet' () ⟨rfl, rfl, rfl, rfl, rfl, rfl, trivial⟩ [11, 10, 7, 5, 2] rfl rfl
      · refine N_then ?_
        refine J_seq ?_
        refine J_region ?_
        refine JL_q (wants_none rfl) rfl (ex_move rfl) ?_
        refine JL_q (wants_none rfl) rfl (ex_fieldAddr fi_60_0 rfl rfl) ?_
        refine JL_q (wants_none rfl) rfl (ex_load_bx 2 ti_2 rfl rfl rfl) ?_
        refine JL_q (wants_none rfl) rfl (ex_move rfl) ?_
        refine JL_bnd fun r107 hr108 => ?_
        refine JL_call (wants_none rfl) rfl Try.call52 rfl (Ca_self (fun _ => rfl) fun w hh => c_spec_l05Push _ w (fun _ hk => hk.elim) _ _ _ (hh.ow0 4 rfl) _ hr108) (fun x109 => ?_)
        refine JL_bnd fun r110 hr111 => ?_
        refine JL_call (wants_none rfl) rfl Try.call52 rfl (Ca_self (fun _ => rfl) fun w hh => c_spec_l05Push _ w (fun _ hk => hk.elim) _ _ _ (hh.ow0 0 rfl) _ hr111) (fun x112 => ?_)
        refine JL_q (wants_none rfl) rfl (ex_fieldAddr fi_37_2 rfl rfl) ?_
        refine JL_sk (wants_none rfl) (sk_store_bx' 5 ti_25 rfl rfl (fun w hh => (hh.cv_ow 0 rfl)) rfl rfl rfl rfl) ?_
        refine JL_nil ?_
        refine N_then ?_
        refine J_region ?_
        refine JL_q (wants_none rfl) rfl (ex_move rfl) ?_
        refine JL_q (wants_none rfl) rfl (ex_nilCheck_pa 2 rfl rfl) ?_
        refine JL_st (wants_none rfl) rfl (st_field_pa 2 (GConfig.at_Left _) fi_37_1 rfl rfl rfl) (fun q113 => ?_)
        refine JL_st (wants_none rfl) rfl (st_load_pa_o 0 (opens_sl _) ti_25 rfl rfl) (fun v114 => ?_)
        refine JL_bnd fun r115 hr116 => ?_
        refine JL_call (wants_none rfl) rfl Try.call51 rfl (Ca_self (fun _ => rfl) fun w hh => c_spec_l05Rest _ w (fun _ hk => hk.elim) _ _ (hh.rd0 0 rfl) _ hr116) (fun x117 => ?_)
        refine JL_q (wants_none rfl) rfl (ex_fieldAddr fi_37_1 rfl rfl) ?_
        refine JL_sk (wants_none rfl) (sk_store_bx' 8 ti_25 rfl rfl (fun w hh => (hh.cv_ow 0 rfl)) rfl rfl rfl rfl) ?_
        refine JL_nil ?_
        refine N_then ?_
        refine J_seq ?_
        refine J_draw [6] (by kernel_rfl) ?_
        refine JP_take (i := 0) [0, 1, 2, 3, 4, 5, 7, 8, 9] [6] rfl (by kernel_rfl) (by kernel_rfl) (by kernel_rfl) rfl rfl (wants_none rfl) rfl (ex_load_bx_agg 7 ti_37 rfl rfl rfl rfl) ?_
        refine JP_take (i := 1) [0, 1, 2, 3, 4, 5, 7, 8, 9] [6] rfl (by kernel_rfl) (by kernel_rfl) (by kernel_rfl) rfl rfl (wants_none rfl) rfl (ex_fieldAddr fi_37_1 rfl rfl) ?_
        refine JP_take (i := 2) [0, 1, 2, 3, 4, 5, 7, 8, 9] [6] rfl (by kernel_rfl) (by kernel_rfl) (by kernel_rfl) rfl rfl (wants_none rfl) rfl (ex_load_bx 7 ti_25 rfl rfl rfl) ?_
        refine JP_take (i := 3) [0, 1, 2, 3, 4, 5, 7, 8, 9] [6] rfl (by kernel_rfl) (by kernel_rfl) (by kernel_rfl) rfl rfl (wants_none rfl) rfl (ex_len_ow 0 Try.underlying25 rfl rfl) ?_
        refine JP_take (i := 4) [0, 1, 2, 3, 4, 5, 7, 8, 9] [6] rfl (by kernel_rfl) (by kernel_rfl) (by kernel_rfl) rfl rfl (wants_none rfl) rfl (ex_leq rfl rfl) ?_
        refine JP_take (i := 5) [0, 1, 2, 3, 4, 5, 7, 8, 9] [6] rfl (by kernel_rfl) (by kernel_rfl) (by kernel_rfl) rfl rfl (wants_none rfl) rfl (ex_move rfl) ?_
        refine JP_cond (fun h118 => ?_) (fun h118 => ?_)
        · refine JP_take (i := 6) [0, 1, 2, 3, 4, 5, 7, 8, 9] [6] rfl (by kernel_rfl) (by kernel_rfl) (by kernel_rfl) rfl rfl (wants_some rfl rfl rfl h118) rfl (ex_fieldAddr fi_37_2 rfl rfl) ?_
          refine JP_take (i := 7) [0, 1, 2, 3, 4, 5, 7, 8, 9] [6] rfl (by kernel_rfl) (by kernel_rfl) (by kernel_rfl) rfl rfl (wants_some rfl rfl rfl h118) rfl (ex_load_bx 7 ti_25 rfl rfl rfl) ?_
          refine JP_take (i := 8) [0, 1, 2, 3, 4, 5, 7, 8, 9] [6] rfl (by kernel_rfl) (by kernel_rfl) (by kernel_rfl) rfl rfl (wants_some rfl rfl rfl h118) rfl (ex_len_ow 3 Try.underlying25 rfl rfl) ?_
          refine JP_take (i := 9) [0, 1, 2, 3, 4, 5, 7, 8, 9] [6] rfl (by kernel_rfl) (by kernel_rfl) (by kernel_rfl) rfl rfl (wants_some rfl rfl rfl h118) rfl (ex_leq rfl rfl) ?_
          refine JP_take (i := 10) [0, 1, 2, 3, 4, 5, 7, 8, 9] [6] rfl (by kernel_rfl) (by kernel_rfl) (by kernel_rfl) rfl rfl (wants_none rfl) rfl (ex_pick_true rfl h118 rfl) ?_
          refine JP_go [0, 1, 2, 3, 4, 5, 7, 8, 9] [6] rfl rfl rfl (fun w120 h1_121 hp119 => ?_)
          refine JD_one (i := 11) (by kernel_rfl) ?_
          refine JO_sk rfl (wants_none rfl) (sk_store_bx' 6 ti_37 rfl rfl (fun w hh => (cv_aggs ⟨cv_int, (hh.cv_ow 0 rfl), (hh.cv_ow 3 rfl), trivial⟩)) rfl rfl rfl rfl) (sub_bx 0 rfl) ?_
          refine JD_take (i := 12) hp119 rfl (by kernel_rfl) (by kernel_rfl) (by kernel_rfl) (wants_none rfl) rfl (ex_assign rfl) ?_
          refine JD_done (by kernel_rfl) ?_
          refine N_then ?_
          refine J_ret ?_
          exact N_ret2 rfl (rv_cell 6 rfl rfl ti_37 rfl) (rv_tmp rfl) (fun w hh => ⟨(x117, x112), rfl, hh.sel [0, 3] rfl⟩)
        · refine JP_pass (i := 6) rfl (by kernel_rfl) (by kernel_rfl) (by kernel_rfl) rfl rfl h118 rfl ?_
          refine JP_pass (i := 7) rfl (by kernel_rfl) (by kernel_rfl) (by kernel_rfl) rfl rfl h118 rfl ?_
          refine JP_pass (i := 8) rfl (by kernel_rfl) (by kernel_rfl) (by kernel_rfl) rfl rfl h118 rfl ?_
          refine JP_pass (i := 9) rfl (by kernel_rfl) (by kernel_rfl) (by kernel_rfl) rfl rfl h118 rfl ?_
          refine JP_take (i := 10) [0, 1, 2, 3, 4, 5, 7, 8, 9] [6] rfl (by kernel_rfl) (by kernel_rfl) (by kernel_rfl) rfl rfl (wants_none rfl) rfl (ex_pick_false rfl h118 rfl) ?_
          refine JP_go [0, 1, 2, 3, 4, 5, 7, 8, 9] [6] rfl rfl rfl (fun w123 h1_124 hp122 => ?_)
          refine JD_one (i := 11) (by kernel_rfl) ?_
          refine JO_sk rfl (wants_none rfl) (sk_store_bx' 6 ti_37 rfl rfl (fun w hh => (cv_aggs ⟨cv_int, (hh.cv_ow 0 rfl), (hh.cv_ow 3 rfl), trivial⟩)) rfl rfl rfl rfl) (sub_bx 0 rfl) ?_
          refine JD_take (i := 12) hp122 rfl (by kernel_rfl) (by kernel_rfl) (by kernel_rfl) (wants_none rfl) rfl (ex_assign rfl) ?_
          refine JD_done (by kernel_rfl) ?_
          refine N_then ?_
          refine J_ret ?_
          exact N_ret2 rfl (rv_cell 6 rfl rfl ti_37 rfl) (rv_tmp rfl) (fun w hh => ⟨(x117, x112), rfl, hh.sel [0, 3] rfl⟩)

set_option maxHeartbeats 40000000 in
theorem c_spec_l33Fit (A : Nat → Prop) (w : World) (hA : ∀ k, A k → k < w.heap.size) (v0_ : Value) (p0 : (List GTile)) (hp0 : Rd A w v0_ p0) (p1 : Int) (p2 : Int) (p3 : Int) (p4 : Int) (r : Int) (hr : F_spec_l33Fit p0 p1 p2 p3 p4 = some r) :
    Con Try.prog 29 [v0_, .int .i64 p1, .int .i64 p2, .int .i64 p3, .int .i64 p4] A w (fun x_ : Unit => .int .i64 r) (fun x_ => []) := by
  refine Con_of (v := fun (r : Int) (x_ : Unit) => .int .i64 r) (fs := fun r x_ => []) Try.func29 rfl Try.ntmps29 rfl ((SH.start hA).start_rd rfl hp0) rfl ?_ hr
  unfold F_spec_l33Fit
  refine J_seq ?_
  refine J_region ?_
  refine JL_q (wants_none rfl) rfl (ex_assign rfl) ?_
  refine JL_nil ?_
  refine N_then ?_
  refine J_seq ?_
  refine J_seq ?_
  refine J_region ?_
  refine JL_q (wants_none rfl) rfl (ex_assign rfl) ?_
  refine JL_nil ?_
  refine N_then ?_
  refine J_loop' (S := Int) (G := Unit) (F_spec_l33Fit_L1 p0 p1 p2 p3 p4) (fun s1 _ => [(0, v0_), (1, .int .i64 p1), (2, .int .i64 p2), (3, .int .i64 p3), (4, .int .i64 p4), (11, .int .i64 s1)]) (fun s1 _ => [.rd v0_ p0]) 0 () ⟨rfl, rfl, rfl, rfl, rfl, rfl, trivial⟩ [0] rfl rfl (fun s1 g2 => ?_) (fun s1 g2 => ?_)
  · unfold F_spec_l33Fit_L1
    refine J_seq ?_
    refine J_seq ?_
    refine J_region ?_
    refine JL_q (wants_none rfl) rfl (ex_move rfl) ?_
    refine JL_q (wants_none rfl) rfl (ex_move rfl) ?_
    refine JL_q (wants_none rfl) rfl (ex_len_rd 0 Try.underlying54 rfl rfl) ?_
    refine JL_q (wants_none rfl) rfl (ex_lss rfl rfl) ?_
    refine JL_nil ?_
    refine N_then ?_
    refine J_if rfl (fun h3 => ?_) (fun h3 => ?_)
    · refine J_skip ?_
      refine N_then ?_
      refine J_seq ?_
      refine J_block ?_
      refine J_seq ?_
      refine J_region ?_
      refine JL_q (wants_none rfl) rfl (ex_move rfl) ?_
      refine JL_q (wants_none rfl) rfl (ex_move rfl) ?_
      refine JL_bnd fun y4 hy5 => ?_
      refine JL_st (wants_none rfl) rfl (st_index 0 Try.underlying54 ti_76 rfl rfl rfl hy5) (fun q6 => ?_)
      refine JL_st (wants_none rfl) rfl (st_load_pt_o 0 (GTile.opens _) ti_76 rfl rfl) (fun _ => ?_)
      refine JL_q (wants_none rfl) rfl (ex_move rfl) ?_
      refine JL_q (wants_none rfl) rfl (ex_move rfl) ?_
      refine JL_q (wants_none rfl) rfl (ex_move rfl) ?_
      refine JL_q (wants_none rfl) rfl (ex_move rfl) ?_
      refine JL_q (wants_none rfl) rfl (ex_build si_76 rfl (.cons fi_76_0 rfl rfl (.cons fi_76_1 rfl rfl (.cons fi_76_2 rfl rfl (.cons fi_76_3 rfl rfl .nil)))) (fun w hh => ⟨cv_int, cv_int, cv_int, cv_int, trivial⟩)) ?_
      refine JL_q (wants_none rfl) rfl (ex_eql_seq_76 rfl rfl) ?_
      refine JL_nil ?_
      refine N_then ?_
      refine J_if rfl (fun h8 => ?_) (fun h8 => ?_)
      · refine J_seq ?_
        refine J_region ?_
        refine JL_q (wants_none rfl) rfl (ex_move rfl) ?_
        refine JL_q (wants_none rfl) rfl (ex_assign rfl) ?_
        refine JL_nil ?_
        refine N_then ?_
        refine J_ret ?_
        refine N_block_ret ?_
        refine N_then_ret ?_
        refine N_round_ret ?_
        refine N_then_ret ?_
        exact N_ret1 rfl (rv_tmp rfl) (fun w hh => ⟨(), rfl, hh.sel [] rfl⟩)
      · refine J_skip ?_
        refine N_block ?_
        refine N_then ?_
        refine J_region ?_
        refine JL_q (wants_none rfl) rfl (ex_move rfl) ?_
        refine JL_q (wants_none rfl) rfl (ex_add rfl rfl) ?_
        refine JL_q (wants_none rfl) rfl (ex_assign rfl) ?_
        refine JL_nil ?_
        exact N_next' () ⟨rfl, rfl, rfl, rfl, rfl, rfl, trivial⟩ [1] rfl rfl
    · refine J_exit ?_
      refine N_then_exit ?_
      exact N_break' () ⟨rfl, rfl, rfl, rfl, rfl, rfl, trivial⟩ [0] rfl rfl
  · refine N_then ?_
    refine J_seq ?_
    refine J_region ?_
    refine JL_q (wants_none rfl) rfl (ex_assign rfl) ?_
    refine JL_nil ?_
    refine N_then ?_
    refine J_ret ?_
    exact N_ret1 rfl (rv_tmp rfl) (fun w hh => ⟨(), rfl, hh.sel [] rfl⟩)

set_option maxHeartbeats 40000000 in
theorem c_spec_TilingOfRun (A : Nat → Prop) (w : World) (hA : ∀ k, A k → k < w.heap.size) (v0_ : Value) (p0 : GMachine) (hp0 : Rd A w v0_ p0) (v1_ : Value) (p1 : GConfig) (hp1 : Rd A w v1_ p1) (p2 : Int) (p3 : Int) (p4 : Int) (r : (List (List Int)) × Int) (hr : F_spec_TilingOfRun p0 p1 p2 p3 p4 = some r) :
    Con Try.prog 6 [v0_, v1_, .int .i64 p2, .int .i64 p3, .int .i64 p4] A w (fun x_ : Value × List Nat => .tuple #[x_.1, .int .i64 r.2]) (fun x_ => [.od 25 x_.1 r.1 x_.2]) := by
  obtain ⟨v0_0, rfl, hp0_0⟩ := GMachine.open hp0
  obtain ⟨v1_0, v1_1, rfl, hp1_0, hp1_1⟩ := GConfig.open hp1
  refine Con_of (v := fun (r : (List (List Int)) × Int) (x_ : Value × List Nat) => .tuple #[x_.1, .int .i64 r.2]) (fs := fun r x_ => [.od 25 x_.1 r.1 x_.2]) Try.func6 rfl Try.ntmps6 rfl ((((SH.start hA).start_rd rfl hp0_0).start_rd rfl hp1_0).start_rd rfl hp1_1) rfl ?_ hr
  unfold F_spec_TilingOfRun
  refine J_seq ?_
  refine J_region ?_
  refine JL_st (wants_none rfl) rfl (st_box' rfl (fun w hh => (cv_aggs ⟨cv_int, cv_int, (hh.cv 2 rfl), trivial⟩))) (fun b1 => ?_)
  refine JL_st (wants_none rfl) rfl (st_box' rfl (fun w hh => (cv_aggs ⟨cv_int, (hh.cv 2 rfl), (hh.cv 1 rfl), trivial⟩))) (fun b2 => ?_)
  refine JL_q (wants_none rfl) rfl (ex_assign rfl) ?_
  refine JL_q (wants_none rfl) rfl (ex_assign rfl) ?_
  refine JL_nil ?_
  refine N_then ?_
  refine J_seq ?_
  refine J_cut' (S' := Unit) (G' := Unit) (fun _ _ => [(2, .int .i64 p2), (3, .int .i64 p3), (4, .int .i64 p4), (5, .pointer (some ⟨b1, 0, none⟩)), (6, .pointer (some ⟨b2, 0, none⟩))]) (fun _ _ => [.rd v0_0 p0.Rules, .bx b1 35 [.int .i64 p0.Symbols, .int .i64 p0.States, v0_0], .rd v1_0 p1.Left, .rd v1_1 p1.Right, .bx b2 37 [.int .i64 p1.State, v1_0, v1_1]]) ?_ (fun s3 g4 => ?_)
  · refine J_seq ?_
    refine J_region ?_
    refine JL_bnd fun r5 hr6 => ?_
    refine JL_call (wants_none rfl) rfl Try.call19 rfl (Ca_of0 fun w hh => c_spec_l05Is _ w (fun _ hk => hk.elim) _ _ (hh.bx_pa 1 rfl (GMachine.rdmk (Rd.mk_int _ _ _) (Rd.mk_int _ _ _) (hh.rd0 4 rfl)) rfl) _ hr6) (fun _ => ?_)
    refine JL_q (wants_none rfl) rfl (ex_not rfl) ?_
    refine JL_q (wants_none rfl) rfl (ex_move rfl) ?_
    refine JL_cond (fun h7 => ?_) (fun h7 => ?_)
    · refine JL_passed rfl rfl rfl h7 ?_
      refine JL_passed rfl rfl rfl h7 ?_
      refine JL_q (wants_none rfl) rfl (ex_pick_true rfl h7 rfl) ?_
      refine JL_nil ?_
      refine N_then ?_
      refine J_if_true rfl rfl ?_
      refine J_seq ?_
      refine J_region ?_
      refine JL_q (wants_none rfl) rfl (ex_assign rfl) ?_
      refine JL_q (wants_none rfl) rfl (ex_assign rfl) ?_
      refine JL_nil ?_
      refine N_then ?_
      refine J_ret ?_
      refine N_mid_ret ?_
      refine N_then_ret ?_
      refine N_ctx (fun w hh => SH.od_nil (α := (List Int)) 25 hh) ?_
      exact N_ret2 rfl (rv_tmp rfl) (rv_tmp rfl) (fun w hh => ⟨((.slice none 0 0 : Value), ([] : List Nat)), rfl, hh.sel [0] rfl⟩)
    · refine JL_bnd fun r8 hr9 => ?_
      refine JL_call (wants_some rfl rfl rfl h7) rfl Try.call20 rfl (Ca_of0 fun w hh => c_spec_l05Good _ w (fun _ hk => hk.elim) _ _ (hh.bx_pa 1 rfl (GMachine.rdmk (Rd.mk_int _ _ _) (Rd.mk_int _ _ _) (hh.rd0 4 rfl)) rfl) _ _ (hh.bx_pa 0 rfl (GConfig.rdmk (Rd.mk_int _ _ _) (hh.rd0 3 rfl) (hh.rd0 2 rfl)) rfl) _ hr9) (fun _ => ?_)
      refine JL_q (wants_some rfl rfl rfl h7) rfl (ex_not rfl) ?_
      refine JL_q (wants_none rfl) rfl (ex_pick_false rfl h7 rfl) ?_
      refine JL_nil ?_
      refine N_then ?_
      refine J_if rfl (fun h10 => ?_) (fun h10 => ?_)
      · refine J_seq ?_
        refine J_region ?_
        refine JL_q (wants_none rfl) rfl (ex_assign rfl) ?_
        refine JL_q (wants_none rfl) rfl (ex_assign rfl) ?_
        refine JL_nil ?_
        refine N_then ?_
        refine J_ret ?_
        refine N_mid_ret ?_
        refine N_then_ret ?_
        refine N_ctx (fun w hh => SH.od_nil (α := (List Int)) 25 hh) ?_
        exact N_ret2 rfl (rv_tmp rfl) (rv_tmp rfl) (fun w hh => ⟨((.slice none 0 0 : Value), ([] : List Nat)), rfl, hh.sel [0] rfl⟩)
      · refine J_skip ?_
        exact N_meet' () ⟨rfl, rfl, rfl, rfl, rfl, trivial⟩ [4, 1, 3, 2, 0] rfl rfl
  · refine N_then ?_
    refine J_seq ?_
    refine J_cut' (S' := Unit) (G' := Unit) (fun _ _ => [(2, .int .i64 p2), (3, .int .i64 p3), (4, .int .i64 p4), (5, .pointer (some ⟨b1, 0, none⟩)), (6, .pointer (some ⟨b2, 0, none⟩))]) (fun _ _ => [.rd v0_0 p0.Rules, .bx b1 35 [.int .i64 p0.Symbols, .int .i64 p0.States, v0_0], .rd v1_0 p1.Left, .rd v1_1 p1.Right, .bx b2 37 [.int .i64 p1.State, v1_0, v1_1]]) ?_ (fun s11 g12 => ?_)
    · refine J_seq ?_
      refine J_region ?_
      refine JL_q (wants_none rfl) rfl (ex_move rfl) ?_
      refine JL_q (wants_none rfl) rfl (ex_move rfl) ?_
      refine JL_bnd fun r13 hr14 => ?_
      refine JL_call (wants_none rfl) rfl Try.call21 rfl (Ca_of0 fun w hh => c_spec_l33Place _ w (fun _ hk => hk.elim) _ _ _ hr14) (fun _ => ?_)
      refine JL_q (wants_none rfl) rfl (ex_not rfl) ?_
      refine JL_q (wants_none rfl) rfl (ex_move rfl) ?_
      refine JL_cond (fun h15 => ?_) (fun h15 => ?_)
      · refine JL_passed rfl rfl rfl h15 ?_
        refine JL_passed rfl rfl rfl h15 ?_
        refine JL_passed rfl rfl rfl h15 ?_
        refine JL_q (wants_none rfl) rfl (ex_pick_true rfl h15 rfl) ?_
        refine JL_nil ?_
        refine N_then ?_
        refine J_if_true rfl rfl ?_
        refine J_seq ?_
        refine J_region ?_
        refine JL_q (wants_none rfl) rfl (ex_assign rfl) ?_
        refine JL_q (wants_none rfl) rfl (ex_assign rfl) ?_
        refine JL_nil ?_
        refine N_then ?_
        refine J_ret ?_
        refine N_mid_ret ?_
        refine N_then_ret ?_
        refine N_ctx (fun w hh => SH.od_nil (α := (List Int)) 25 hh) ?_
        exact N_ret2 rfl (rv_tmp rfl) (rv_tmp rfl) (fun w hh => ⟨((.slice none 0 0 : Value), ([] : List Nat)), rfl, hh.sel [0] rfl⟩)
      · refine JL_q (wants_some rfl rfl rfl h15) rfl (ex_move rfl) ?_
        refine JL_bnd fun r16 hr17 => ?_
        refine JL_call (wants_some rfl rfl rfl h15) rfl Try.call22 rfl (Ca_of0 fun w hh => c_spec_l00In _ w (fun _ hk => hk.elim) _ _ _ _ hr17) (fun _ => ?_)
        refine JL_q (wants_some rfl rfl rfl h15) rfl (ex_not rfl) ?_
        refine JL_q (wants_none rfl) rfl (ex_pick_false rfl h15 rfl) ?_
        refine JL_nil ?_
        refine N_then ?_
        refine J_if rfl (fun h18 => ?_) (fun h18 => ?_)
        · refine J_seq ?_
          refine J_region ?_
          refine JL_q (wants_none rfl) rfl (ex_assign rfl) ?_
          refine JL_q (wants_none rfl) rfl (ex_assign rfl) ?_
          refine JL_nil ?_
          refine N_then ?_
          refine J_ret ?_
          refine N_mid_ret ?_
          refine N_then_ret ?_
          refine N_ctx (fun w hh => SH.od_nil (α := (List Int)) 25 hh) ?_
          exact N_ret2 rfl (rv_tmp rfl) (rv_tmp rfl) (fun w hh => ⟨((.slice none 0 0 : Value), ([] : List Nat)), rfl, hh.sel [0] rfl⟩)
        · refine J_skip ?_
          exact N_meet' () ⟨rfl, rfl, rfl, rfl, rfl, trivial⟩ [0, 1, 2, 3, 4] rfl rfl
    · refine N_then ?_
      refine J_seq ?_
      refine J_region ?_
      refine JL_bnd fun r19 hr20 => ?_
      refine JL_call (wants_none rfl) rfl Try.call23 rfl (Ca_self (fun _ => rfl) fun w hh => c_spec_l33Tiles _ w (fun _ hk => hk.elim) _ _ (hh.bx_pa 1 rfl (GMachine.rdmk (Rd.mk_int _ _ _) (Rd.mk_int _ _ _) (hh.rd0 0 rfl)) rfl) _ hr20) (fun x21 => ?_)
      refine JL_q (wants_none rfl) rfl (ex_move rfl) ?_
      refine JL_q (wants_none rfl) rfl (ex_extract rfl rfl) ?_
      refine JL_q (wants_none rfl) rfl (ex_extract rfl rfl) ?_
      refine JL_q (wants_none rfl) rfl (ex_assign rfl) ?_
      refine JL_q (wants_none rfl) rfl (ex_assign rfl) ?_
      refine JL_nil ?_
      refine N_then ?_
      refine J_seq ?_
      refine J_seq ?_
      refine J_region ?_
      refine JL_q (wants_none rfl) rfl (ex_move rfl) ?_
      refine JL_q (wants_none rfl) rfl (ex_not rfl) ?_
      refine JL_nil ?_
      refine N_then ?_
      refine J_if rfl (fun h22 => ?_) (fun h22 => ?_)
      · refine J_seq ?_
        refine J_region ?_
        refine JL_q (wants_none rfl) rfl (ex_assign rfl) ?_
        refine JL_q (wants_none rfl) rfl (ex_assign rfl) ?_
        refine JL_nil ?_
        refine N_then ?_
        refine J_ret ?_
        refine N_then_ret ?_
        refine N_ctx (fun w hh => SH.od_nil (α := (List Int)) 25 hh) ?_
        exact N_ret2 rfl (rv_tmp rfl) (rv_tmp rfl) (fun w hh => ⟨((.slice none 0 0 : Value), ([] : List Nat)), rfl, hh.sel [0] rfl⟩)
      · refine J_skip ?_
        refine N_then ?_
        refine J_seq ?_
        refine J_region ?_
        refine JL_q (wants_none rfl) rfl (ex_move rfl) ?_
        refine JL_q (wants_none rfl) rfl (ex_move rfl) ?_
        refine JL_bnd fun r23 hr24 => ?_
        refine JL_call (wants_none rfl) rfl Try.call24 rfl (Ca_self (fun _ => rfl) fun w hh => c_spec_l33Start _ w (fun _ hk => hk.elim) _ _ (hh.bx_pa 2 rfl (GMachine.rdmk (Rd.mk_int _ _ _) (Rd.mk_int _ _ _) (hh.rd0 1 rfl)) rfl) _ _ (hh.bx_pa 5 rfl (GConfig.rdmk (Rd.mk_int _ _ _) (hh.rd0 3 rfl) (hh.rd0 4 rfl)) rfl) _ _ _ hr24) (fun x25 => ?_)
        refine JL_q (wants_none rfl) rfl (ex_move rfl) ?_
        refine JL_q (wants_none rfl) rfl (ex_extract rfl rfl) ?_
        refine JL_q (wants_none rfl) rfl (ex_extract rfl rfl) ?_
        refine JL_q (wants_none rfl) rfl (ex_assign rfl) ?_
        refine JL_q (wants_none rfl) rfl (ex_assign rfl) ?_
        refine JL_nil ?_
        refine N_then ?_
        refine J_seq ?_
        refine J_seq ?_
        refine J_region ?_
        refine JL_q (wants_none rfl) rfl (ex_move rfl) ?_
        refine JL_q (wants_none rfl) rfl (ex_neq rfl rfl) ?_
        refine JL_nil ?_
        refine N_then ?_
        refine J_if rfl (fun h26 => ?_) (fun h26 => ?_)
        · refine J_seq ?_
          refine J_region ?_
          refine JL_q (wants_none rfl) rfl (ex_move rfl) ?_
          refine JL_q (wants_none rfl) rfl (ex_assign rfl) ?_
          refine JL_q (wants_none rfl) rfl (ex_assign rfl) ?_
          refine JL_nil ?_
          refine N_then ?_
          refine J_ret ?_
          refine N_then_ret ?_
          refine N_ctx (fun w hh => SH.od_nil (α := (List Int)) 25 hh) ?_
          exact N_ret2 rfl (rv_tmp rfl) (rv_tmp rfl) (fun w hh => ⟨((.slice none 0 0 : Value), ([] : List Nat)), rfl, hh.sel [0] rfl⟩)
        · refine J_skip ?_
          refine N_then ?_
          refine J_seq ?_
          refine J_region ?_
          refine JL_st (wants_none rfl) rfl (st_buildSlice_od (vs := []) (B := ([] : List Nat)) ([] : List (List Int)) [] Try.underlying30 ti_25 zi_25 rfl rfl rfl rfl rfl (fun w hh => dwv_nil)) (fun b27 => ?_)
          refine JL_q (wants_none rfl) rfl (ex_assign rfl) ?_
          refine JL_nil ?_
          refine N_then ?_
          refine J_seq ?_
          refine J_loop' (S := Int × Int × Int × (List Int) × (List Int) × (List Int) × (List (List Int))) (G := Value × Value × Value × Value × List Nat) (F_spec_TilingOfRun_L1 p0 p2 r19) (fun s28 g29 => [(2, .int .i64 p2), (3, .int .i64 s28.1), (4, .int .i64 s28.2.1), (5, .pointer (some ⟨b1, 0, none⟩)), (6, .pointer (some ⟨b2, 0, none⟩)), (12, x21), (14, g29.2.2.1), (16, g29.2.2.2.1)]) (fun s28 g29 => [.rd v0_0 p0.Rules, .bx b1 35 [.int .i64 p0.Symbols, .int .i64 p0.States, v0_0], .rd g29.1 s28.2.2.2.1, .rd g29.2.1 s28.2.2.2.2.1, .bx b2 37 [.int .i64 s28.2.2.1, g29.1, g29.2.1], .ow 76 x21 r19.1, .ow 2 g29.2.2.1 s28.2.2.2.2.2.1, .od 25 g29.2.2.2.1 s28.2.2.2.2.2.2 g29.2.2.2.2]) (p3, p4, p1.State, p1.Left, p1.Right, r23.1, ([] : List (List Int))) (v1_0, v1_1, x25, (.slice (some ⟨b27, 0, none⟩) 0 0), ([] : List Nat)) ⟨rfl, rfl, rfl, rfl, rfl, rfl, rfl, rfl, trivial⟩ [3, 4, 5, 6, 7, 2, 1, 0] rfl rfl (fun s28 g29 => ?_) (fun s28 g29 => ?_)
          · obtain ⟨g29_0, g29_1, g29_2, g29_3, g29_4⟩ := g29
            unfold F_spec_TilingOfRun_L1
            refine J_seq ?_
            refine J_seq ?_
            refine J_region ?_
            refine JL_q (wants_none rfl) rfl (ex_move rfl) ?_
            refine JL_q (wants_none rfl) rfl (ex_gtr rfl rfl) ?_
            refine JL_nil ?_
            refine N_then ?_
            refine J_if rfl (fun h30 => ?_) (fun h30 => ?_)
            · refine J_skip ?_
              refine N_then ?_
              refine J_seq ?_
              refine J_block ?_
              refine J_seq ?_
              refine J_seq ?_
              refine J_region ?_
              refine JL_bnd fun r31 hr32 => ?_
              refine JL_call (wants_none rfl) rfl Try.call25 rfl (Ca_of0 fun w hh => c_spec_l05Halts _ w (fun _ hk => hk.elim) _ _ (hh.bx_pa 1 rfl (GMachine.rdmk (Rd.mk_int _ _ _) (Rd.mk_int _ _ _) (hh.rd0 0 rfl)) rfl) _ _ (hh.bx_pa 4 rfl (GConfig.rdmk (Rd.mk_int _ _ _) (hh.rd0 2 rfl) (hh.rd0 3 rfl)) rfl) _ hr32) (fun _ => ?_)
              refine JL_nil ?_
              refine N_then ?_
              refine J_if rfl (fun h33 => ?_) (fun h33 => ?_)
              · refine J_seq ?_
                refine J_region ?_
                refine JL_q (wants_none rfl) rfl (ex_assign rfl) ?_
                refine JL_q (wants_none rfl) rfl (ex_assign rfl) ?_
                refine JL_nil ?_
                refine N_then ?_
                refine J_ret ?_
                refine N_then_ret ?_
                refine N_block_ret ?_
                refine N_then_ret ?_
                refine N_round_ret ?_
                refine N_then_ret ?_
                refine N_ctx (fun w hh => SH.od_nil (α := (List Int)) 25 hh) ?_
                exact N_ret2 rfl (rv_tmp rfl) (rv_tmp rfl) (fun w hh => ⟨((.slice none 0 0 : Value), ([] : List Nat)), rfl, hh.sel [0] rfl⟩)
              · refine J_skip ?_
                refine N_then ?_
                refine J_seq ?_
                refine J_cut' (S' := Int × Int × Int) (G' := Nat) (fun s34 g35 => [(2, .int .i64 p2), (3, .int .i64 s28.1), (4, .int .i64 s28.2.1), (5, .pointer (some ⟨b1, 0, none⟩)), (6, .pointer (some ⟨b2, 0, none⟩)), (12, x21), (14, g29_2), (16, g29_3), (17, .pointer (some ⟨g35, 0, none⟩))]) (fun s34 g35 => [.rd v0_0 p0.Rules, .bx b1 35 [.int .i64 p0.Symbols, .int .i64 p0.States, v0_0], .rd g29_0 s28.2.2.2.1, .rd g29_1 s28.2.2.2.2.1, .bx b2 37 [.int .i64 s28.2.2.1, g29_0, g29_1], .ow 76 x21 r19.1, .ow 2 g29_2 s28.2.2.2.2.2.1, .od 25 g29_3 s28.2.2.2.2.2.2 g29_4, .bx g35 60 [.int .i64 s34.1, .int .i64 s34.2.1, .int .i64 s34.2.2]]) ?_ (fun s34 g35 => ?_)
                · refine J_draw [] (by kernel_rfl) ?_
                  refine JP_take (i := 0) [0, 1, 2, 3, 4, 5, 6, 7] [] rfl (by kernel_rfl) (by kernel_rfl) (by kernel_rfl) rfl rfl (wants_none rfl) rfl (ex_fieldAddr fi_35_2 rfl rfl) ?_
                  refine JP_take (i := 1) [0, 1, 2, 3, 4, 5, 6, 7] [] rfl (by kernel_rfl) (by kernel_rfl) (by kernel_rfl) rfl rfl (wants_none rfl) rfl (ex_load_bx 1 ti_33 rfl rfl rfl) ?_
                  refine JP_go [0, 1, 2, 3, 4, 5, 6, 7] [] rfl rfl rfl (fun w37 h1_38 hp36 => ?_)
                  refine JD_bnd fun r39 hr40 => ?_
                  refine JD_two (i := 2) (j := 5) (by kernel_rfl) ?_ ?_
                  · refine JO_call rfl (wants_none rfl) rfl Try.call26 rfl (Ca_of0 fun w hh => c_spec_l05At _ w (fun _ hk => hk.elim) _ _ (hh.bx_pa 1 rfl (GMachine.rdmk (Rd.mk_int _ _ _) (Rd.mk_int _ _ _) (hh.rd0 0 rfl)) rfl) _ _ (hh.bx_pa 4 rfl (GConfig.rdmk (Rd.mk_int _ _ _) (hh.rd0 2 rfl) (hh.rd0 3 rfl)) rfl) _ hr40) (fun _ => ?_)
                    refine JD_bnd fun y41 hy42 => ?_
                    refine JD_sq (i := 3) (fs := fun q43 => [.pt q43 y41]) [] h1_38 rfl rfl (by kernel_rfl) (by kernel_rfl) (by kernel_rfl) (wants_none rfl) rfl (sq_index 0 Try.underlying33 ti_60 rfl rfl rfl hy42) (fun _ => rfl) (fun q43 h1_44 => ?_)
                    refine JD_sq (i := 4) [] h1_44 rfl rfl (by kernel_rfl) (by kernel_rfl) (by kernel_rfl) (wants_none rfl) rfl (sq_load_pt_o 0 (GRule.opens _) ti_60 rfl rfl) (fun _ => rfl) (fun _ h1_46 => ?_)
                    refine JD_one (i := 5) (by kernel_rfl) ?_
                    refine JO_st rfl (wants_none rfl) rfl (st_alloc zi_60 rfl) (fun _ hk => nomatch hk) (fun b47 => ?_)
                    refine JD_one (i := 6) (by kernel_rfl) ?_
                    refine JO_sk2 0 [] [0, 1, 2, 3, 4, 5, 6, 7, 8] [1, 2, 3, 4, 5, 6, 7, 8, 9] rfl rfl rfl rfl rfl rfl (wants_none rfl) (sk_store_bx' 0 ti_60 rfl rfl (fun w hh => (cv_aggs ⟨cv_int, cv_int, cv_int, trivial⟩)) rfl rfl rfl rfl) (fun _ hk => hk) ?_
                    refine JD_done (by kernel_rfl) ?_
                    exact N_meet' b47 ⟨rfl, rfl, rfl, rfl, rfl, rfl, rfl, rfl, rfl, trivial⟩ [2, 3, 4, 5, 6, 7, 8, 9, 0] rfl rfl
                  · refine JO_st rfl (wants_none rfl) rfl (st_alloc zi_60 rfl) (fun _ hk => nomatch hk) (fun b48 => ?_)
                    refine JD_one (i := 2) (by kernel_rfl) ?_
                    refine JO_call rfl (wants_none rfl) rfl Try.call26 rfl (Ca_of0 fun w hh => c_spec_l05At _ w (fun _ hk => hk.elim) _ _ (hh.bx_pa 2 rfl (GMachine.rdmk (Rd.mk_int _ _ _) (Rd.mk_int _ _ _) (hh.rd0 1 rfl)) rfl) _ _ (hh.bx_pa 5 rfl (GConfig.rdmk (Rd.mk_int _ _ _) (hh.rd0 3 rfl) (hh.rd0 4 rfl)) rfl) _ hr40) (fun _ => ?_)
                    refine JD_bnd fun y49 hy50 => ?_
                    refine JD_sq (i := 3) (fs := fun q51 => [.pt q51 y49]) [] h1_38 rfl rfl (by kernel_rfl) (by kernel_rfl) (by kernel_rfl) (wants_none rfl) rfl (sq_index 0 Try.underlying33 ti_60 rfl rfl rfl hy50) (fun _ => rfl) (fun q51 h1_52 => ?_)
                    refine JD_sq (i := 4) [] h1_52 rfl rfl (by kernel_rfl) (by kernel_rfl) (by kernel_rfl) (wants_none rfl) rfl (sq_load_pt_o 0 (GRule.opens _) ti_60 rfl rfl) (fun _ => rfl) (fun _ h1_54 => ?_)
                    refine JD_one (i := 6) (by kernel_rfl) ?_
                    refine JO_sk2 1 [] [0, 1, 2, 3, 4, 5, 6, 7, 8] [0, 2, 3, 4, 5, 6, 7, 8, 9] rfl rfl rfl rfl rfl rfl (wants_none rfl) (sk_store_bx' 1 ti_60 rfl rfl (fun w hh => (cv_aggs ⟨cv_int, cv_int, cv_int, trivial⟩)) rfl rfl rfl rfl) (fun _ hk => hk) ?_
                    refine JD_done (by kernel_rfl) ?_
                    exact N_meet' b48 ⟨rfl, rfl, rfl, rfl, rfl, rfl, rfl, rfl, rfl, trivial⟩ [2, 3, 4, 5, 6, 7, 8, 9, 1] rfl rfl
                · refine N_then ?_
                  refine J_seq ?_
                  refine J_region ?_
                  refine JL_bnd fun r55 hr56 => ?_
                  refine JL_call (wants_none rfl) rfl Try.call27 rfl (Ca_self (fun _ => rfl) fun w hh => c_spec_l05Step _ w (fun _ hk => hk.elim) _ _ (hh.bx_pa 1 rfl (GMachine.rdmk (Rd.mk_int _ _ _) (Rd.mk_int _ _ _) (hh.rd0 0 rfl)) rfl) _ _ (hh.bx_pa 4 rfl (GConfig.rdmk (Rd.mk_int _ _ _) (hh.rd0 2 rfl) (hh.rd0 3 rfl)) rfl) _ hr56) (fun x57 => ?_)
                  obtain ⟨x57_0, x57_1⟩ := x57
                  refine JL_q (wants_none rfl) rfl (ex_move rfl) ?_
                  refine JL_q (wants_none rfl) rfl (ex_extract rfl rfl) ?_
                  refine JL_q (wants_none rfl) rfl (ex_extract rfl rfl) ?_
                  refine JL_st (wants_none rfl) rfl (st_alloc zi_37 rfl) (fun b58 => ?_)
                  refine JL_sk (wants_none rfl) (sk_store_bx' 0 ti_37 rfl rfl (fun w hh => (cv_aggs ⟨cv_int, (hh.cv_ow 1 rfl), (hh.cv_ow 2 rfl), trivial⟩)) rfl rfl rfl rfl) ?_
                  refine JL_q (wants_none rfl) rfl (ex_assign rfl) ?_
                  refine JL_nil ?_
                  refine N_then ?_
                  refine J_seq ?_
                  refine J_region ?_
                  refine JL_q (wants_none rfl) rfl (ex_move rfl) ?_
                  refine JL_q (wants_none rfl) rfl (ex_fieldAddr fi_60_1 rfl rfl) ?_
                  refine JL_q (wants_none rfl) rfl (ex_load_bx 11 ti_2 rfl rfl rfl) ?_
                  refine JL_q (wants_none rfl) rfl (ex_add rfl rfl) ?_
                  refine JL_q (wants_none rfl) rfl (ex_assign rfl) ?_
                  refine JL_nil ?_
                  refine N_then ?_
                  refine J_seq ?_
                  refine J_seq ?_
                  refine J_region ?_
                  refine JL_q (wants_none rfl) rfl (ex_move rfl) ?_
                  refine JL_q (wants_none rfl) rfl (ex_move rfl) ?_
                  refine JL_q (wants_none rfl) rfl (ex_sub rfl rfl) ?_
                  refine JL_bnd fun r59 hr60 => ?_
                  refine JL_call (wants_none rfl) rfl Try.call22 rfl (Ca_of0 fun w hh => c_spec_l00In _ w (fun _ hk => hk.elim) _ _ _ _ hr60) (fun _ => ?_)
                  refine JL_q (wants_none rfl) rfl (ex_not rfl) ?_
                  refine JL_nil ?_
                  refine N_then ?_
                  refine J_if rfl (fun h61 => ?_) (fun h61 => ?_)
                  · refine J_seq ?_
                    refine J_region ?_
                    refine JL_q (wants_none rfl) rfl (ex_assign rfl) ?_
                    refine JL_q (wants_none rfl) rfl (ex_assign rfl) ?_
                    refine JL_nil ?_
                    refine N_then ?_
                    refine J_ret ?_
                    refine N_then_ret ?_
                    refine N_block_ret ?_
                    refine N_then_ret ?_
                    refine N_round_ret ?_
                    refine N_then_ret ?_
                    refine N_ctx (fun w hh => SH.od_nil (α := (List Int)) 25 hh) ?_
                    exact N_ret2 rfl (rv_tmp rfl) (rv_tmp rfl) (fun w hh => ⟨((.slice none 0 0 : Value), ([] : List Nat)), rfl, hh.sel [0] rfl⟩)
                  · refine J_skip ?_
                    refine N_then ?_
                    refine J_seq ?_
                    refine J_region ?_
                    refine JL_q (wants_none rfl) rfl (ex_move rfl) ?_
                    refine JL_q (wants_none rfl) rfl (ex_move rfl) ?_
                    refine JL_bnd fun r62 hr63 => ?_
                    refine JL_call (wants_none rfl) rfl Try.call28 rfl (Ca_self (fun _ => rfl) fun w hh => c_spec_l33Colors _ w (fun _ hk => hk.elim) _ _ (hh.bx_pa 4 rfl (GMachine.rdmk (Rd.mk_int _ _ _) (Rd.mk_int _ _ _) (hh.rd0 3 rfl)) rfl) _ _ (hh.bx_pa 0 rfl (GConfig.rdmk (Rd.mk_int _ _ _) (hh.ow0 1 rfl) (hh.ow0 2 rfl)) rfl) _ _ _ hr63) (fun x64 => ?_)
                    refine JL_q (wants_none rfl) rfl (ex_move rfl) ?_
                    refine JL_q (wants_none rfl) rfl (ex_extract rfl rfl) ?_
                    refine JL_q (wants_none rfl) rfl (ex_extract rfl rfl) ?_
                    refine JL_q (wants_none rfl) rfl (ex_assign rfl) ?_
                    refine JL_q (wants_none rfl) rfl (ex_assign rfl) ?_
                    refine JL_nil ?_
                    refine N_then ?_
                    refine J_seq ?_
                    refine J_region ?_
                    refine JL_st (wants_none rfl) rfl (st_buildSlice (vs := []) ([] : List Int) Try.underlying25 ti_2 zi_2 rfl rfl rfl (fun w hh => trivial)) (fun b65 => ?_)
                    refine JL_q (wants_none rfl) rfl (ex_assign rfl) ?_
                    refine JL_nil ?_
                    refine N_then ?_
                    refine J_seq ?_
                    refine J_seq ?_
                    refine J_region ?_
                    refine JL_q (wants_none rfl) rfl (ex_assign rfl) ?_
                    refine JL_nil ?_
                    refine N_then ?_
                    refine J_loop' (S := (List Int) × Int) (G := Value) (F_spec_TilingOfRun_L2 p2 r19 s28 s34 r62) (fun s66 g67 => [(2, .int .i64 p2), (3, .int .i64 s28.1), (4, .int .i64 s28.2.1), (5, .pointer (some ⟨b1, 0, none⟩)), (6, .pointer (some ⟨b2, 0, none⟩)), (12, x21), (14, g29_2), (16, g29_3), (17, .pointer (some ⟨g35, 0, none⟩)), (18, .pointer (some ⟨b58, 0, none⟩)), (20, .int .i64 (w64 (s28.1 + s34.2.1))), (21, x64), (23, g67), (24, .int .i64 s66.2)]) (fun s66 g67 => [.rd v0_0 p0.Rules, .bx b1 35 [.int .i64 p0.Symbols, .int .i64 p0.States, v0_0], .rd g29_0 s28.2.2.2.1, .rd g29_1 s28.2.2.2.2.1, .bx b2 37 [.int .i64 s28.2.2.1, g29_0, g29_1], .ow 76 x21 r19.1, .ow 2 g29_2 s28.2.2.2.2.2.1, .od 25 g29_3 s28.2.2.2.2.2.2 g29_4, .bx g35 60 [.int .i64 s34.1, .int .i64 s34.2.1, .int .i64 s34.2.2], .ow 2 x57_0 r55.1.Left, .ow 2 x57_1 r55.1.Right, .bx b58 37 [.int .i64 r55.1.State, x57_0, x57_1], .ow 2 x64 r62.1, .ow 2 g67 s66.1]) (([] : List Int), 0) (.slice (some ⟨b65, 0, none⟩) 0 0) ⟨rfl, rfl, rfl, rfl, rfl, rfl, rfl, rfl, rfl, rfl, rfl, rfl, rfl, rfl, trivial⟩ [5, 6, 7, 8, 9, 10, 11, 12, 13, 3, 4, 2, 1, 0] rfl rfl (fun s66 g67 => ?_) (fun s66 g67 => ?_)
                    · unfold F_spec_TilingOfRun_L2
                      refine J_seq ?_
                      refine J_seq ?_
                      refine J_region ?_
                      refine JL_q (wants_none rfl) rfl (ex_move rfl) ?_
                      refine JL_q (wants_none rfl) rfl (ex_move rfl) ?_
                      refine JL_q (wants_none rfl) rfl (ex_lss rfl rfl) ?_
                      refine JL_nil ?_
                      refine N_then ?_
                      refine J_if rfl (fun h68 => ?_) (fun h68 => ?_)
                      · refine J_skip ?_
                        refine N_then ?_
                        refine J_seq ?_
                        refine J_block ?_
                        refine J_seq ?_
                        refine J_region ?_
                        refine JL_q (wants_none rfl) rfl (ex_assign rfl) ?_
                        refine JL_nil ?_
                        refine N_then ?_
                        refine J_seq ?_
                        refine J_region ?_
                        refine JL_q (wants_none rfl) rfl (ex_assign rfl) ?_
                        refine JL_nil ?_
                        refine N_then ?_
                        refine J_seq ?_
                        refine J_cut' (S' := Int) (G' := Unit) (fun s69 _ => [(2, .int .i64 p2), (3, .int .i64 s28.1), (4, .int .i64 s28.2.1), (5, .pointer (some ⟨b1, 0, none⟩)), (6, .pointer (some ⟨b2, 0, none⟩)), (12, x21), (14, g29_2), (16, g29_3), (17, .pointer (some ⟨g35, 0, none⟩)), (18, .pointer (some ⟨b58, 0, none⟩)), (20, .int .i64 (w64 (s28.1 + s34.2.1))), (21, x64), (23, g67), (24, .int .i64 s66.2), (25, .int .i64 0), (26, .int .i64 s69)]) (fun s69 _ => [.rd v0_0 p0.Rules, .bx b1 35 [.int .i64 p0.Symbols, .int .i64 p0.States, v0_0], .rd g29_0 s28.2.2.2.1, .rd g29_1 s28.2.2.2.2.1, .bx b2 37 [.int .i64 s28.2.2.1, g29_0, g29_1], .ow 76 x21 r19.1, .ow 2 g29_2 s28.2.2.2.2.2.1, .od 25 g29_3 s28.2.2.2.2.2.2 g29_4, .bx g35 60 [.int .i64 s34.1, .int .i64 s34.2.1, .int .i64 s34.2.2], .ow 2 x57_0 r55.1.Left, .ow 2 x57_1 r55.1.Right, .bx b58 37 [.int .i64 r55.1.State, x57_0, x57_1], .ow 2 x64 r62.1, .ow 2 g67 s66.1]) ?_ (fun s69 g70 => ?_)
                        · refine J_seq ?_
                          refine J_region ?_
                          refine JL_q (wants_none rfl) rfl (ex_fieldAddr fi_60_1 rfl rfl) ?_
                          refine JL_q (wants_none rfl) rfl (ex_load_bx 8 ti_2 rfl rfl rfl) ?_
                          refine JL_q (wants_none rfl) rfl (ex_gtr rfl rfl) ?_
                          refine JL_q (wants_none rfl) rfl (ex_move rfl) ?_
                          refine JL_cond (fun h71 => ?_) (fun h71 => ?_)
                          · refine JL_q (wants_some rfl rfl rfl h71) rfl (ex_move rfl) ?_
                            refine JL_q (wants_some rfl rfl rfl h71) rfl (ex_move rfl) ?_
                            refine JL_q (wants_some rfl rfl rfl h71) rfl (ex_eql rfl rfl) ?_
                            refine JL_q (wants_none rfl) rfl (ex_pick_true rfl h71 rfl) ?_
                            refine JL_nil ?_
                            refine N_then ?_
                            refine J_if rfl (fun h72 => ?_) (fun h72 => ?_)
                            · refine J_region ?_
                              refine JL_q (wants_none rfl) rfl (ex_fieldAddr fi_60_2 rfl rfl) ?_
                              refine JL_q (wants_none rfl) rfl (ex_load_bx 8 ti_2 rfl rfl rfl) ?_
                              refine JL_q (wants_none rfl) rfl (ex_mul rfl rfl) ?_
                              refine JL_q (wants_none rfl) rfl (ex_add rfl rfl) ?_
                              refine JL_q (wants_none rfl) rfl (ex_assign rfl) ?_
                              refine JL_nil ?_
                              exact N_meet' () ⟨rfl, rfl, rfl, rfl, rfl, rfl, rfl, rfl, rfl, rfl, rfl, rfl, rfl, rfl, rfl, rfl, trivial⟩ [0, 1, 2, 3, 4, 5, 6, 7, 8, 9, 10, 11, 12, 13] rfl rfl
                            · refine J_skip ?_
                              exact N_meet' () ⟨rfl, rfl, rfl, rfl, rfl, rfl, rfl, rfl, rfl, rfl, rfl, rfl, rfl, rfl, rfl, rfl, trivial⟩ [0, 1, 2, 3, 4, 5, 6, 7, 8, 9, 10, 11, 12, 13] rfl rfl
                          · refine JL_passed rfl rfl rfl h71 ?_
                            refine JL_passed rfl rfl rfl h71 ?_
                            refine JL_passed rfl rfl rfl h71 ?_
                            refine JL_q (wants_none rfl) rfl (ex_pick_false rfl h71 rfl) ?_
                            refine JL_nil ?_
                            refine N_then ?_
                            refine J_if_false rfl rfl ?_
                            refine J_skip ?_
                            exact N_meet' () ⟨rfl, rfl, rfl, rfl, rfl, rfl, rfl, rfl, rfl, rfl, rfl, rfl, rfl, rfl, rfl, rfl, trivial⟩ [0, 1, 2, 3, 4, 5, 6, 7, 8, 9, 10, 11, 12, 13] rfl rfl
                        · refine N_then ?_
                          refine J_seq ?_
                          refine J_cut' (S' := Int) (G' := Unit) (fun s73 _ => [(2, .int .i64 p2), (3, .int .i64 s28.1), (4, .int .i64 s28.2.1), (5, .pointer (some ⟨b1, 0, none⟩)), (6, .pointer (some ⟨b2, 0, none⟩)), (12, x21), (14, g29_2), (16, g29_3), (17, .pointer (some ⟨g35, 0, none⟩)), (18, .pointer (some ⟨b58, 0, none⟩)), (20, .int .i64 (w64 (s28.1 + s34.2.1))), (21, x64), (23, g67), (24, .int .i64 s66.2), (25, .int .i64 s73), (26, .int .i64 s69)]) (fun s73 _ => [.rd v0_0 p0.Rules, .bx b1 35 [.int .i64 p0.Symbols, .int .i64 p0.States, v0_0], .rd g29_0 s28.2.2.2.1, .rd g29_1 s28.2.2.2.2.1, .bx b2 37 [.int .i64 s28.2.2.1, g29_0, g29_1], .ow 76 x21 r19.1, .ow 2 g29_2 s28.2.2.2.2.2.1, .od 25 g29_3 s28.2.2.2.2.2.2 g29_4, .bx g35 60 [.int .i64 s34.1, .int .i64 s34.2.1, .int .i64 s34.2.2], .ow 2 x57_0 r55.1.Left, .ow 2 x57_1 r55.1.Right, .bx b58 37 [.int .i64 r55.1.State, x57_0, x57_1], .ow 2 x64 r62.1, .ow 2 g67 s66.1]) ?_ (fun s73 g74 => ?_)
                          · refine J_seq ?_
                            refine J_region ?_
                            refine JL_q (wants_none rfl) rfl (ex_fieldAddr fi_60_1 rfl rfl) ?_
                            refine JL_q (wants_none rfl) rfl (ex_load_bx 8 ti_2 rfl rfl rfl) ?_
                            refine JL_q (wants_none rfl) rfl (ex_gtr rfl rfl) ?_
                            refine JL_q (wants_none rfl) rfl (ex_move rfl) ?_
                            refine JL_cond (fun h75 => ?_) (fun h75 => ?_)
                            · refine JL_q (wants_some rfl rfl rfl h75) rfl (ex_move rfl) ?_
                              refine JL_q (wants_some rfl rfl rfl h75) rfl (ex_move rfl) ?_
                              refine JL_q (wants_some rfl rfl rfl h75) rfl (ex_eql rfl rfl) ?_
                              refine JL_q (wants_none rfl) rfl (ex_pick_true rfl h75 rfl) ?_
                              refine JL_nil ?_
                              refine N_then ?_
                              refine J_if rfl (fun h76 => ?_) (fun h76 => ?_)
                              · refine J_region ?_
                                refine JL_q (wants_none rfl) rfl (ex_fieldAddr fi_60_2 rfl rfl) ?_
                                refine JL_q (wants_none rfl) rfl (ex_load_bx 8 ti_2 rfl rfl rfl) ?_
                                refine JL_q (wants_none rfl) rfl (ex_mul rfl rfl) ?_
                                refine JL_q (wants_none rfl) rfl (ex_add rfl rfl) ?_
                                refine JL_q (wants_none rfl) rfl (ex_assign rfl) ?_
                                refine JL_nil ?_
                                exact N_meet' () ⟨rfl, rfl, rfl, rfl, rfl, rfl, rfl, rfl, rfl, rfl, rfl, rfl, rfl, rfl, rfl, rfl, trivial⟩ [0, 1, 2, 3, 4, 5, 6, 7, 8, 9, 10, 11, 12, 13] rfl rfl
                              · refine J_skip ?_
                                exact N_meet' () ⟨rfl, rfl, rfl, rfl, rfl, rfl, rfl, rfl, rfl, rfl, rfl, rfl, rfl, rfl, rfl, rfl, trivial⟩ [0, 1, 2, 3, 4, 5, 6, 7, 8, 9, 10, 11, 12, 13] rfl rfl
                            · refine JL_passed rfl rfl rfl h75 ?_
                              refine JL_passed rfl rfl rfl h75 ?_
                              refine JL_passed rfl rfl rfl h75 ?_
                              refine JL_q (wants_none rfl) rfl (ex_pick_false rfl h75 rfl) ?_
                              refine JL_nil ?_
                              refine N_then ?_
                              refine J_if_false rfl rfl ?_
                              refine J_skip ?_
                              exact N_meet' () ⟨rfl, rfl, rfl, rfl, rfl, rfl, rfl, rfl, rfl, rfl, rfl, rfl, rfl, rfl, rfl, rfl, trivial⟩ [0, 1, 2, 3, 4, 5, 6, 7, 8, 9, 10, 11, 12, 13] rfl rfl
                          · refine N_then ?_
                            refine J_seq ?_
                            refine J_cut' (S' := Int) (G' := Unit) (fun s77 _ => [(2, .int .i64 p2), (3, .int .i64 s28.1), (4, .int .i64 s28.2.1), (5, .pointer (some ⟨b1, 0, none⟩)), (6, .pointer (some ⟨b2, 0, none⟩)), (12, x21), (14, g29_2), (16, g29_3), (17, .pointer (some ⟨g35, 0, none⟩)), (18, .pointer (some ⟨b58, 0, none⟩)), (20, .int .i64 (w64 (s28.1 + s34.2.1))), (21, x64), (23, g67), (24, .int .i64 s66.2), (25, .int .i64 s77), (26, .int .i64 s69)]) (fun s77 _ => [.rd v0_0 p0.Rules, .bx b1 35 [.int .i64 p0.Symbols, .int .i64 p0.States, v0_0], .rd g29_0 s28.2.2.2.1, .rd g29_1 s28.2.2.2.2.1, .bx b2 37 [.int .i64 s28.2.2.1, g29_0, g29_1], .ow 76 x21 r19.1, .ow 2 g29_2 s28.2.2.2.2.2.1, .od 25 g29_3 s28.2.2.2.2.2.2 g29_4, .bx g35 60 [.int .i64 s34.1, .int .i64 s34.2.1, .int .i64 s34.2.2], .ow 2 x57_0 r55.1.Left, .ow 2 x57_1 r55.1.Right, .bx b58 37 [.int .i64 r55.1.State, x57_0, x57_1], .ow 2 x64 r62.1, .ow 2 g67 s66.1]) ?_ (fun s77 g78 => ?_)
                            · refine J_seq ?_
                              refine J_region ?_
                              refine JL_q (wants_none rfl) rfl (ex_fieldAddr fi_60_1 rfl rfl) ?_
                              refine JL_q (wants_none rfl) rfl (ex_load_bx 8 ti_2 rfl rfl rfl) ?_
                              refine JL_q (wants_none rfl) rfl (ex_lss rfl rfl) ?_
                              refine JL_q (wants_none rfl) rfl (ex_move rfl) ?_
                              refine JL_cond (fun h79 => ?_) (fun h79 => ?_)
                              · refine JL_q (wants_some rfl rfl rfl h79) rfl (ex_move rfl) ?_
                                refine JL_q (wants_some rfl rfl rfl h79) rfl (ex_move rfl) ?_
                                refine JL_q (wants_some rfl rfl rfl h79) rfl (ex_eql rfl rfl) ?_
                                refine JL_q (wants_none rfl) rfl (ex_pick_true rfl h79 rfl) ?_
                                refine JL_nil ?_
                                refine N_then ?_
                                refine J_if rfl (fun h80 => ?_) (fun h80 => ?_)
                                · refine J_region ?_
                                  refine JL_q (wants_none rfl) rfl (ex_fieldAddr fi_60_2 rfl rfl) ?_
                                  refine JL_q (wants_none rfl) rfl (ex_load_bx 8 ti_2 rfl rfl rfl) ?_
                                  refine JL_q (wants_none rfl) rfl (ex_mul rfl rfl) ?_
                                  refine JL_q (wants_none rfl) rfl (ex_add rfl rfl) ?_
                                  refine JL_q (wants_none rfl) rfl (ex_assign rfl) ?_
                                  refine JL_nil ?_
                                  exact N_meet' () ⟨rfl, rfl, rfl, rfl, rfl, rfl, rfl, rfl, rfl, rfl, rfl, rfl, rfl, rfl, rfl, rfl, trivial⟩ [0, 1, 2, 3, 4, 5, 6, 7, 8, 9, 10, 11, 12, 13] rfl rfl
                                · refine J_skip ?_
                                  exact N_meet' () ⟨rfl, rfl, rfl, rfl, rfl, rfl, rfl, rfl, rfl, rfl, rfl, rfl, rfl, rfl, rfl, rfl, trivial⟩ [0, 1, 2, 3, 4, 5, 6, 7, 8, 9, 10, 11, 12, 13] rfl rfl
                              · refine JL_passed rfl rfl rfl h79 ?_
                                refine JL_passed rfl rfl rfl h79 ?_
                                refine JL_passed rfl rfl rfl h79 ?_
                                refine JL_q (wants_none rfl) rfl (ex_pick_false rfl h79 rfl) ?_
                                refine JL_nil ?_
                                refine N_then ?_
                                refine J_if_false rfl rfl ?_
                                refine J_skip ?_
                                exact N_meet' () ⟨rfl, rfl, rfl, rfl, rfl, rfl, rfl, rfl, rfl, rfl, rfl, rfl, rfl, rfl, rfl, rfl, trivial⟩ [0, 1, 2, 3, 4, 5, 6, 7, 8, 9, 10, 11, 12, 13] rfl rfl
                            · refine N_then ?_
                              refine J_seq ?_
                              refine J_cut' (S' := Int) (G' := Unit) (fun s81 _ => [(2, .int .i64 p2), (3, .int .i64 s28.1), (4, .int .i64 s28.2.1), (5, .pointer (some ⟨b1, 0, none⟩)), (6, .pointer (some ⟨b2, 0, none⟩)), (12, x21), (14, g29_2), (16, g29_3), (17, .pointer (some ⟨g35, 0, none⟩)), (18, .pointer (some ⟨b58, 0, none⟩)), (20, .int .i64 (w64 (s28.1 + s34.2.1))), (21, x64), (23, g67), (24, .int .i64 s66.2), (25, .int .i64 s77), (26, .int .i64 s81)]) (fun s81 _ => [.rd v0_0 p0.Rules, .bx b1 35 [.int .i64 p0.Symbols, .int .i64 p0.States, v0_0], .rd g29_0 s28.2.2.2.1, .rd g29_1 s28.2.2.2.2.1, .bx b2 37 [.int .i64 s28.2.2.1, g29_0, g29_1], .ow 76 x21 r19.1, .ow 2 g29_2 s28.2.2.2.2.2.1, .od 25 g29_3 s28.2.2.2.2.2.2 g29_4, .bx g35 60 [.int .i64 s34.1, .int .i64 s34.2.1, .int .i64 s34.2.2], .ow 2 x57_0 r55.1.Left, .ow 2 x57_1 r55.1.Right, .bx b58 37 [.int .i64 r55.1.State, x57_0, x57_1], .ow 2 x64 r62.1, .ow 2 g67 s66.1]) ?_ (fun s81 g82 => ?_)
                              · refine J_seq ?_
                                refine J_region ?_
                                refine JL_q (wants_none rfl) rfl (ex_fieldAddr fi_60_1 rfl rfl) ?_
                                refine JL_q (wants_none rfl) rfl (ex_load_bx 8 ti_2 rfl rfl rfl) ?_
                                refine JL_q (wants_none rfl) rfl (ex_lss rfl rfl) ?_
                                refine JL_q (wants_none rfl) rfl (ex_move rfl) ?_
                                refine JL_cond (fun h83 => ?_) (fun h83 => ?_)
                                · refine JL_q (wants_some rfl rfl rfl h83) rfl (ex_move rfl) ?_
                                  refine JL_q (wants_some rfl rfl rfl h83) rfl (ex_move rfl) ?_
                                  refine JL_q (wants_some rfl rfl rfl h83) rfl (ex_eql rfl rfl) ?_
                                  refine JL_q (wants_none rfl) rfl (ex_pick_true rfl h83 rfl) ?_
                                  refine JL_nil ?_
                                  refine N_then ?_
                                  refine J_if rfl (fun h84 => ?_) (fun h84 => ?_)
                                  · refine J_region ?_
                                    refine JL_q (wants_none rfl) rfl (ex_fieldAddr fi_60_2 rfl rfl) ?_
                                    refine JL_q (wants_none rfl) rfl (ex_load_bx 8 ti_2 rfl rfl rfl) ?_
                                    refine JL_q (wants_none rfl) rfl (ex_mul rfl rfl) ?_
                                    refine JL_q (wants_none rfl) rfl (ex_add rfl rfl) ?_
                                    refine JL_q (wants_none rfl) rfl (ex_assign rfl) ?_
                                    refine JL_nil ?_
                                    exact N_meet' () ⟨rfl, rfl, rfl, rfl, rfl, rfl, rfl, rfl, rfl, rfl, rfl, rfl, rfl, rfl, rfl, rfl, trivial⟩ [0, 1, 2, 3, 4, 5, 6, 7, 8, 9, 10, 11, 12, 13] rfl rfl
                                  · refine J_skip ?_
                                    exact N_meet' () ⟨rfl, rfl, rfl, rfl, rfl, rfl, rfl, rfl, rfl, rfl, rfl, rfl, rfl, rfl, rfl, rfl, trivial⟩ [0, 1, 2, 3, 4, 5, 6, 7, 8, 9, 10, 11, 12, 13] rfl rfl
                                · refine JL_passed rfl rfl rfl h83 ?_
                                  refine JL_passed rfl rfl rfl h83 ?_
                                  refine JL_passed rfl rfl rfl h83 ?_
                                  refine JL_q (wants_none rfl) rfl (ex_pick_false rfl h83 rfl) ?_
                                  refine JL_nil ?_
                                  refine N_then ?_
                                  refine J_if_false rfl rfl ?_
                                  refine J_skip ?_
                                  exact N_meet' () ⟨rfl, rfl, rfl, rfl, rfl, rfl, rfl, rfl, rfl, rfl, rfl, rfl, rfl, rfl, rfl, rfl, trivial⟩ [0, 1, 2, 3, 4, 5, 6, 7, 8, 9, 10, 11, 12, 13] rfl rfl
                              · refine N_then ?_
                                refine J_draw [6, 12, 13] (by kernel_rfl) ?_
                                refine JP_take (i := 0) [0, 1, 2, 3, 4, 5, 7, 8, 9, 10, 11] [6, 12, 13] rfl (by kernel_rfl) (by kernel_rfl) (by kernel_rfl) rfl rfl (wants_none rfl) rfl (ex_move rfl) ?_
                                refine JP_take (i := 1) [0, 1, 2, 3, 4, 5, 7, 8, 9, 10, 11] [6, 12, 13] rfl (by kernel_rfl) (by kernel_rfl) (by kernel_rfl) rfl rfl (wants_none rfl) rfl (ex_move rfl) ?_
                                refine JP_take (i := 2) [0, 1, 2, 3, 4, 5, 7, 8, 9, 10, 11] [6, 12, 13] rfl (by kernel_rfl) (by kernel_rfl) (by kernel_rfl) rfl rfl (wants_none rfl) rfl (ex_move rfl) ?_
                                refine JP_take (i := 3) [0, 1, 2, 3, 4, 5, 7, 8, 9, 10, 11] [6, 12, 13] rfl (by kernel_rfl) (by kernel_rfl) (by kernel_rfl) rfl rfl (wants_none rfl) rfl (ex_move rfl) ?_
                                refine JP_take (i := 4) [0, 1, 2, 3, 4, 5, 7, 8, 9, 10, 11] [6, 12, 13] rfl (by kernel_rfl) (by kernel_rfl) (by kernel_rfl) rfl rfl (wants_none rfl) rfl (ex_move rfl) ?_
                                refine JP_bnd fun y85 hy86 => ?_
                                refine JP_ow_open (v := g29_2) 6 rfl hy86 ?_; rintro b87 cap88 rfl
                                refine JP_take (i := 5) [0, 1, 2, 3, 4, 5, 7, 8, 9, 10, 11] [6, 12, 13] rfl (by kernel_rfl) (by kernel_rfl) (by kernel_rfl) rfl rfl (wants_none rfl) rfl (ex_index_own Try.underlying25 ti_2 rfl rfl hy86 (by first | rfl | simp)) ?_
                                refine JP_take (i := 7) [0, 1, 2, 3, 4, 5, 7, 8, 9, 10, 11] [6, 12, 13] rfl (by kernel_rfl) (by kernel_rfl) (by kernel_rfl) rfl rfl (wants_none rfl) rfl (ex_move rfl) ?_
                                refine JP_take (i := 8) [0, 1, 2, 3, 4, 5, 7, 8, 9, 10, 11] [6, 12, 13] rfl (by kernel_rfl) (by kernel_rfl) (by kernel_rfl) rfl rfl (wants_none rfl) rfl (ex_move rfl) ?_
                                refine JP_take (i := 9) [0, 1, 2, 3, 4, 5, 7, 8, 9, 10, 11] [6, 12, 13] rfl (by kernel_rfl) (by kernel_rfl) (by kernel_rfl) rfl rfl (wants_none rfl) rfl (ex_move rfl) ?_
                                refine JP_bnd fun y89 hy90 => ?_
                                refine JP_ow_open (v := x64) 12 rfl hy90 ?_; rintro b91 cap92 rfl
                                refine JP_take (i := 10) [0, 1, 2, 3, 4, 5, 7, 8, 9, 10, 11] [6, 12, 13] rfl (by kernel_rfl) (by kernel_rfl) (by kernel_rfl) rfl rfl (wants_none rfl) rfl (ex_index_own Try.underlying25 ti_2 rfl rfl hy90 (by first | rfl | simp)) ?_
                                refine JP_go [0, 1, 2, 3, 4, 5, 7, 8, 9, 10, 11] [6, 12, 13] rfl rfl rfl (fun w94 h1_95 hp93 => ?_)
                                refine JD_two (i := 6) (j := 11) (by kernel_rfl) ?_ ?_
                                · refine JO_q rfl (wants_none rfl) rfl (ex_load_ow_int 6 ti_2 rfl rfl hy86) ?_
                                  refine JD_one (i := 11) (by kernel_rfl) ?_
                                  refine JO_q rfl (wants_none rfl) rfl (ex_load_ow_int 12 ti_2 rfl rfl hy90) ?_
                                  refine JD_bnd fun r98 hr99 => ?_
                                  refine JD_one (i := 12) (by kernel_rfl) ?_
                                  refine JO_call rfl (wants_none rfl) rfl Try.call29 rfl (Ca_of0 fun w hh => c_spec_l33Fit _ w (fun _ hk => hk.elim) _ _ (hh.ow0 5 rfl) _ _ _ _ _ hr99) (fun _ => ?_)
                                  refine JD_one (i := 13) (by kernel_rfl) ?_
                                  refine JO_st rfl (wants_none rfl) rfl (st_buildSlice (vs := [.int .i64 r98]) ([r98] : List Int) Try.underlying25 ti_2 zi_2 rfl rfl rfl (fun w hh => ⟨(Rd.mk_int _ _ _), trivial⟩)) (fun _ hk => nomatch hk) (fun b100 => ?_)
                                  refine JD_bnd fun z101 hz102 => ?_
                                  refine JD_one (i := 14) (by kernel_rfl) ?_
                                  refine JO_st rfl (wants_none rfl) rfl (st_append 14 Try.underlying25 ti_2 zi_2 rfl bi_2 rfl rfl rfl rfl (fun w hh => hh.src_ow 0 rfl) hz102) (sub_ow 2 rfl) (fun v103 => ?_)
                                  refine JD_take (i := 15) hp93 rfl (by kernel_rfl) (by kernel_rfl) (by kernel_rfl) (wants_none rfl) rfl (ex_assign rfl) ?_
                                  refine JD_done (by kernel_rfl) ?_
                                  refine N_block ?_
                                  refine N_then ?_
                                  refine J_region ?_
                                  refine JL_q (wants_none rfl) rfl (ex_move rfl) ?_
                                  refine JL_q (wants_none rfl) rfl (ex_add rfl rfl) ?_
                                  refine JL_q (wants_none rfl) rfl (ex_assign rfl) ?_
                                  refine JL_nil ?_
                                  exact N_next' v103 ⟨rfl, rfl, rfl, rfl, rfl, rfl, rfl, rfl, rfl, rfl, rfl, rfl, rfl, rfl, trivial⟩ [1, 2, 3, 4, 5, 6, 7, 8, 9, 10, 11, 12, 13, 14] rfl rfl
                                · refine JO_q rfl (wants_none rfl) rfl (ex_load_ow_int 12 ti_2 rfl rfl hy90) ?_
                                  refine JD_one (i := 6) (by kernel_rfl) ?_
                                  refine JO_q rfl (wants_none rfl) rfl (ex_load_ow_int 6 ti_2 rfl rfl hy86) ?_
                                  refine JD_bnd fun r106 hr107 => ?_
                                  refine JD_one (i := 12) (by kernel_rfl) ?_
                                  refine JO_call rfl (wants_none rfl) rfl Try.call29 rfl (Ca_of0 fun w hh => c_spec_l33Fit _ w (fun _ hk => hk.elim) _ _ (hh.ow0 5 rfl) _ _ _ _ _ hr107) (fun _ => ?_)
                                  refine JD_one (i := 13) (by kernel_rfl) ?_
                                  refine JO_st rfl (wants_none rfl) rfl (st_buildSlice (vs := [.int .i64 r106]) ([r106] : List Int) Try.underlying25 ti_2 zi_2 rfl rfl rfl (fun w hh => ⟨(Rd.mk_int _ _ _), trivial⟩)) (fun _ hk => nomatch hk) (fun b108 => ?_)
                                  refine JD_bnd fun z109 hz110 => ?_
                                  refine JD_one (i := 14) (by kernel_rfl) ?_
                                  refine JO_st rfl (wants_none rfl) rfl (st_append 14 Try.underlying25 ti_2 zi_2 rfl bi_2 rfl rfl rfl rfl (fun w hh => hh.src_ow 0 rfl) hz110) (sub_ow 2 rfl) (fun v111 => ?_)
                                  refine JD_take (i := 15) hp93 rfl (by kernel_rfl) (by kernel_rfl) (by kernel_rfl) (wants_none rfl) rfl (ex_assign rfl) ?_
                                  refine JD_done (by kernel_rfl) ?_
                                  refine N_block ?_
                                  refine N_then ?_
                                  refine J_region ?_
                                  refine JL_q (wants_none rfl) rfl (ex_move rfl) ?_
                                  refine JL_q (wants_none rfl) rfl (ex_add rfl rfl) ?_
                                  refine JL_q (wants_none rfl) rfl (ex_assign rfl) ?_
                                  refine JL_nil ?_
                                  exact N_next' v111 ⟨rfl, rfl, rfl, rfl, rfl, rfl, rfl, rfl, rfl, rfl, rfl, rfl, rfl, rfl, trivial⟩ [1, 2, 3, 4, 5, 6, 7, 8, 9, 10, 11, 12, 13, 14] rfl rfl
                      · refine J_exit ?_
                        refine N_then_exit ?_
                        exact N_break' g67 ⟨rfl, rfl, rfl, rfl, rfl, rfl, rfl, rfl, rfl, rfl, rfl, rfl, rfl, rfl, trivial⟩ [0, 1, 2, 3, 4, 5, 6, 7, 8, 9, 10, 11, 12, 13] rfl rfl
                    · refine N_then ?_
                      refine J_seq ?_
                      refine J_region ?_
                      refine JL_q (wants_none rfl) rfl (ex_move rfl) ?_
                      refine JL_q (wants_none rfl) rfl (ex_move rfl) ?_
                      refine JL_ctx (fun w hh => hh.tokf 13 rfl rfl) ?_
                      refine JL_st (wants_none rfl) rfl (st_buildSlice_od (vs := [g67]) (B := (((g67 : Value).ownBlock.toList ++ []) ++ [])) ([s66.1] : List (List Int)) [0] Try.underlying30 ti_25 zi_25 rfl rfl rfl rfl rfl (fun w hh => (dwv_cons (hh.dw 0 rfl) dwv_nil))) (fun b112 => ?_)
                      refine JL_bnd fun z113 hz114 => ?_
                      refine JL_st (wants_none rfl) rfl (st_append_od 9 0 Try.underlying30 ti_25 zi_25 rfl bi_25 rfl rfl rfl rfl rfl rfl hz114) (fun v115 => ?_)
                      refine JL_q (wants_none rfl) rfl (ex_assign rfl) ?_
                      refine JL_nil ?_
                      refine N_then ?_
                      refine J_seq ?_
                      refine J_region ?_
                      refine JL_q (wants_none rfl) rfl (ex_move rfl) ?_
                      refine JL_q (wants_none rfl) rfl (ex_assign rfl) ?_
                      refine JL_nil ?_
                      refine N_then ?_
                      refine J_seq ?_
                      refine J_region ?_
                      refine JL_q (wants_none rfl) rfl (ex_move rfl) ?_
                      refine JL_q (wants_none rfl) rfl (ex_assign rfl) ?_
                      refine JL_nil ?_
                      refine N_then ?_
                      refine J_region ?_
                      refine JL_q (wants_none rfl) rfl (ex_load_bx_agg 13 ti_37 rfl rfl rfl rfl) ?_
                      refine JL_sk (wants_none rfl) (sk_store_bx' 6 ti_37 rfl rfl (fun w hh => (cv_aggs ⟨cv_int, (hh.cv_ow 11 rfl), (hh.cv_ow 12 rfl), trivial⟩)) rfl rfl rfl rfl) ?_
                      refine JL_nil ?_
                      refine N_block ?_
                      refine N_then ?_
                      refine J_region ?_
                      refine JL_q (wants_none rfl) rfl (ex_move rfl) ?_
                      refine JL_q (wants_none rfl) rfl (ex_sub rfl rfl) ?_
                      refine JL_q (wants_none rfl) rfl (ex_assign rfl) ?_
                      refine JL_nil ?_
                      refine N_ctx (fun w hh => hh.tokf 11 rfl rfl) ?_
                      refine N_ctx (fun w hh => hh.tokf 13 rfl rfl) ?_
                      exact N_next' (x57_0, x57_1, x64, v115, (g29_4 ++ (((g67 : Value).ownBlock.toList ++ []) ++ []))) ⟨rfl, rfl, rfl, rfl, rfl, rfl, rfl, rfl, trivial⟩ [4, 5, 13, 14, 8, 9, 16, 11] rfl rfl
            · refine J_exit ?_
              refine N_then_exit ?_
              exact N_break' (g29_0, g29_1, g29_2, g29_3, g29_4) ⟨rfl, rfl, rfl, rfl, rfl, rfl, rfl, rfl, trivial⟩ [0, 1, 2, 3, 4, 5, 6, 7] rfl rfl
          · obtain ⟨g29_0, g29_1, g29_2, g29_3, g29_4⟩ := g29
            refine N_then ?_
            refine J_seq ?_
            refine J_region ?_
            refine JL_q (wants_none rfl) rfl (ex_move rfl) ?_
            refine JL_q (wants_none rfl) rfl (ex_assign rfl) ?_
            refine JL_q (wants_none rfl) rfl (ex_assign rfl) ?_
            refine JL_nil ?_
            refine N_then ?_
            refine J_ret ?_
            exact N_ret2 rfl (rv_tmp rfl) (rv_tmp rfl) (fun w hh => ⟨(g29_3, g29_4), rfl, hh.sel [7] rfl⟩)

set_option maxHeartbeats 40000000 in
theorem c_impl_within (A : Nat → Prop) (w : World) (hA : ∀ k, A k → k < w.heap.size) (p0 : Int) (p1 : Int) (p2 : Int) (r : Bool) (hr : F_impl_within p0 p1 p2 = some r) :
    Con Try.prog 34 [.int .i64 p0, .int .i64 p1, .int .i64 p2] A w (fun x_ : Unit => .bool r) (fun x_ => []) := by
  refine Con_of (v := fun (r : Bool) (x_ : Unit) => .bool r) (fs := fun r x_ => []) Try.func34 rfl Try.ntmps34 rfl (SH.start hA) rfl ?_ hr
  unfold F_impl_within
  refine J_seq ?_
  refine J_region ?_
  refine JL_q (wants_none rfl) rfl (ex_assign rfl) ?_
  refine JL_nil ?_
  refine N_then ?_
  refine J_seq ?_
  refine J_region ?_
  refine JL_q (wants_none rfl) rfl (ex_move rfl) ?_
  refine JL_q (wants_none rfl) rfl (ex_move rfl) ?_
  refine JL_q (wants_none rfl) rfl (ex_leq rfl rfl) ?_
  refine JL_q (wants_none rfl) rfl (ex_move rfl) ?_
  refine JL_cond (fun h1 => ?_) (fun h1 => ?_)
  · refine JL_q (wants_some rfl rfl rfl h1) rfl (ex_move rfl) ?_
    refine JL_q (wants_some rfl rfl rfl h1) rfl (ex_move rfl) ?_
    refine JL_q (wants_some rfl rfl rfl h1) rfl (ex_leq rfl rfl) ?_
    refine JL_q (wants_none rfl) rfl (ex_pick_true rfl h1 rfl) ?_
    refine JL_q (wants_none rfl) rfl (ex_assign rfl) ?_
    refine JL_nil ?_
    refine N_then ?_
    refine J_ret ?_
    exact N_ret1 rfl (rv_tmp rfl) (fun w hh => ⟨(), rfl, hh.sel [] rfl⟩)
  · refine JL_passed rfl rfl rfl h1 ?_
    refine JL_passed rfl rfl rfl h1 ?_
    refine JL_passed rfl rfl rfl h1 ?_
    refine JL_q (wants_none rfl) rfl (ex_pick_false rfl h1 rfl) ?_
    refine JL_q (wants_none rfl) rfl (ex_assign rfl) ?_
    refine JL_nil ?_
    refine N_then ?_
    refine J_ret ?_
    exact N_ret1 rfl (rv_tmp rfl) (fun w hh => ⟨(), rfl, hh.sel [] rfl⟩)

set_option maxHeartbeats 40000000 in
theorem c_impl_size_impl_Rule (A : Nat → Prop) (w : World) (hA : ∀ k, A k → k < w.heap.size) (v0_ : Value) (p0 : (List GRule)) (hp0 : Rd A w v0_ p0) (r : Int) (hr : F_impl_size_impl_Rule p0 = some r) :
    Con Try.prog 67 [v0_] A w (fun x_ : Unit => .int .i64 r) (fun x_ => []) := by
  refine Con_of (v := fun (r : Int) (x_ : Unit) => .int .i64 r) (fs := fun r x_ => []) Try.func67 rfl Try.ntmps67 rfl ((SH.start hA).start_rd rfl hp0) rfl ?_ hr
  unfold F_impl_size_impl_Rule
  refine J_seq ?_
  refine J_region ?_
  refine JL_q (wants_none rfl) rfl (ex_assign rfl) ?_
  refine JL_nil ?_
  refine N_then ?_
  refine J_seq ?_
  refine J_region ?_
  refine JL_q (wants_none rfl) rfl (ex_move rfl) ?_
  refine JL_q (wants_none rfl) rfl (ex_len_rd 0 Try.underlying33 rfl rfl) ?_
  refine JL_q (wants_none rfl) rfl (ex_assign rfl) ?_
  refine JL_nil ?_
  refine N_then ?_
  refine J_ret ?_
  exact N_ret1 rfl (rv_tmp rfl) (fun w hh => ⟨(), rfl, hh.sel [] rfl⟩)

set_option maxHeartbeats 40000000 in
theorem c_impl_noRule (A : Nat → Prop) (w : World) (hA : ∀ k, A k → k < w.heap.size)  (r : GRule) (hr : F_impl_noRule  = some r) :
    Con Try.prog 61 [] A w (fun x_ : Unit => .agg #[.int .i64 r.Write, .int .i64 r.Move, .int .i64 r.Next]) (fun x_ => []) := by
  refine Con_of (v := fun (r : GRule) (x_ : Unit) => .agg #[.int .i64 r.Write, .int .i64 r.Move, .int .i64 r.Next]) (fs := fun r x_ => []) Try.func61 rfl Try.ntmps61 rfl (SH.start hA) rfl ?_ hr
  unfold F_impl_noRule
  refine J_seq ?_
  refine J_region ?_
  refine JL_st (wants_none rfl) rfl (st_alloc zi_60 rfl) (fun b1 => ?_)
  refine JL_nil ?_
  refine N_then ?_
  refine J_seq ?_
  refine J_region ?_
  refine JL_q (wants_none rfl) rfl (ex_build si_60 rfl (.cons fi_60_2 rfl rfl .nil) (fun w hh => ⟨cv_int, trivial⟩)) ?_
  refine JL_sk (wants_none rfl) (sk_store_bx' 0 ti_60 rfl rfl (fun w hh => (cv_aggs ⟨cv_int, cv_int, cv_int, trivial⟩)) rfl rfl rfl rfl) ?_
  refine JL_nil ?_
  refine N_then ?_
  refine J_ret ?_
  exact N_ret1 rfl (rv_cell 0 rfl rfl ti_60 rfl) (fun w hh => ⟨(), rfl, hh.sel [] rfl⟩)

set_option maxHeartbeats 40000000 in
theorem c_impl_isRule (A : Nat → Prop) (w : World) (hA : ∀ k, A k → k < w.heap.size) (v0_ : Value) (p0 : GRule) (hp0 : Rd A w v0_ p0) (r : Bool) (hr : F_impl_isRule p0 = some r) :
    Con Try.prog 37 [v0_] A w (fun x_ : Unit => .bool r) (fun x_ => []) := by
  obtain rfl := GRule.open hp0
  refine Con_of (v := fun (r : Bool) (x_ : Unit) => .bool r) (fs := fun r x_ => []) Try.func37 rfl Try.ntmps37 rfl (SH.start hA) rfl ?_ hr
  unfold F_impl_isRule
  refine J_seq ?_
  refine J_region ?_
  refine JL_st (wants_none rfl) rfl (st_box' rfl (fun w hh => (cv_aggs ⟨cv_int, cv_int, cv_int, trivial⟩))) (fun b1 => ?_)
  refine JL_q (wants_none rfl) rfl (ex_assign rfl) ?_
  refine JL_nil ?_
  refine N_then ?_
  refine J_seq ?_
  refine J_draw [] (by kernel_rfl) ?_
  refine JP_take (i := 0) [0] [] rfl (by kernel_rfl) (by kernel_rfl) (by kernel_rfl) rfl rfl (wants_none rfl) rfl (ex_load_bx_agg 0 ti_60 rfl rfl rfl rfl) ?_
  refine JP_go [0] [] rfl rfl rfl (fun w3 h1_4 hp2 => ?_)
  refine JD_bnd fun r5 hr6 => ?_
  refine JD_one (i := 1) (by kernel_rfl) ?_
  refine JO_call rfl (wants_none rfl) rfl Try.call61 rfl (Ca_of0 fun w hh => c_impl_noRule _ w (fun _ hk => hk.elim)  _ hr6) (fun _ => ?_)
  refine JD_take (i := 2) hp2 rfl (by kernel_rfl) (by kernel_rfl) (by kernel_rfl) (wants_none rfl) rfl (ex_neq_seq_60 rfl rfl) ?_
  refine JD_take (i := 3) hp2 rfl (by kernel_rfl) (by kernel_rfl) (by kernel_rfl) (wants_none rfl) rfl (ex_assign rfl) ?_
  refine JD_done (by kernel_rfl) ?_
  refine N_then ?_
  refine J_ret ?_
  exact N_ret1 rfl (rv_tmp rfl) (fun w hh => ⟨(), rfl, hh.sel [] rfl⟩)

set_option maxHeartbeats 40000000 in
theorem c_impl_validRule (A : Nat → Prop) (w : World) (hA : ∀ k, A k → k < w.heap.size) (v0_ : Value) (p0 : GMachine) (hp0 : Rd A w v0_ p0) (v1_ : Value) (p1 : GRule) (hp1 : Rd A w v1_ p1) (r : Bool) (hr : F_impl_validRule p0 p1 = some r) :
    Con Try.prog 70 [v0_, v1_] A w (fun x_ : Unit => .bool r) (fun x_ => []) := by
  obtain ⟨v0_0, rfl, hp0_0⟩ := GMachine.open hp0
  obtain rfl := GRule.open hp1
  refine Con_of (v := fun (r : Bool) (x_ : Unit) => .bool r) (fs := fun r x_ => []) Try.func70 rfl Try.ntmps70 rfl ((SH.start hA).start_rd rfl hp0_0) rfl ?_ hr
  unfold F_impl_validRule
  refine J_seq ?_
  refine J_region ?_
  refine JL_st (wants_none rfl) rfl (st_box' rfl (fun w hh => (cv_aggs ⟨cv_int, cv_int, (hh.cv 0 rfl), trivial⟩))) (fun b1 => ?_)
  refine JL_st (wants_none rfl) rfl (st_box' rfl (fun w hh => (cv_aggs ⟨cv_int, cv_int, cv_int, trivial⟩))) (fun b2 => ?_)
  refine JL_q (wants_none rfl) rfl (ex_assign rfl) ?_
  refine JL_nil ?_
  refine N_then ?_
  refine J_seq ?_
  refine J_seq ?_
  refine J_region ?_
  refine JL_q (wants_none rfl) rfl (ex_load_bx_agg 0 ti_60 rfl rfl rfl rfl) ?_
  refine JL_bnd fun r3 hr4 => ?_
  refine JL_call (wants_none rfl) rfl Try.call37 rfl (Ca_of0 fun w hh => c_impl_isRule _ w (fun _ hk => hk.elim) _ _ (GRule.rdmk (Rd.mk_int _ _ _) (Rd.mk_int _ _ _) (Rd.mk_int _ _ _)) _ hr4) (fun _ => ?_)
  refine JL_q (wants_none rfl) rfl (ex_not rfl) ?_
  refine JL_nil ?_
  refine N_then ?_
  refine J_if rfl (fun h5 => ?_) (fun h5 => ?_)
  · refine J_seq ?_
    refine J_region ?_
    refine JL_q (wants_none rfl) rfl (ex_assign rfl) ?_
    refine JL_nil ?_
    refine N_then ?_
    refine J_ret ?_
    refine N_then_ret ?_
    exact N_ret1 rfl (rv_tmp rfl) (fun w hh => ⟨(), rfl, hh.sel [] rfl⟩)
  · refine J_skip ?_
    refine N_then ?_
    refine J_seq ?_
    refine J_region ?_
    refine JL_q (wants_none rfl) rfl (ex_fieldAddr fi_60_0 rfl rfl) ?_
    refine JL_q (wants_none rfl) rfl (ex_load_bx 0 ti_2 rfl rfl rfl) ?_
    refine JL_q (wants_none rfl) rfl (ex_fieldAddr fi_35_0 rfl rfl) ?_
    refine JL_q (wants_none rfl) rfl (ex_load_bx 1 ti_2 rfl rfl rfl) ?_
    refine JL_q (wants_none rfl) rfl (ex_sub rfl rfl) ?_
    refine JL_bnd fun r6 hr7 => ?_
    refine JL_call (wants_none rfl) rfl Try.call34 rfl (Ca_of0 fun w hh => c_impl_within _ w (fun _ hk => hk.elim) _ _ _ _ hr7) (fun _ => ?_)
    refine JL_q (wants_none rfl) rfl (ex_move rfl) ?_
    refine JL_cond (fun h8 => ?_) (fun h8 => ?_)
    · refine JL_q (wants_some rfl rfl rfl h8) rfl (ex_fieldAddr fi_60_1 rfl rfl) ?_
      refine JL_q (wants_some rfl rfl rfl h8) rfl (ex_load_bx 0 ti_2 rfl rfl rfl) ?_
      refine JL_q (wants_some rfl rfl rfl h8) rfl (ex_eql rfl rfl) ?_
      refine JL_q (wants_some rfl rfl rfl h8) rfl (ex_move rfl) ?_
      refine JL_cond (fun h9 => ?_) (fun h9 => ?_)
      · refine JL_passed rfl rfl rfl h9 ?_
        refine JL_passed rfl rfl rfl h9 ?_
        refine JL_passed rfl rfl rfl h9 ?_
        refine JL_q (wants_some rfl rfl rfl h8) rfl (ex_pick_true rfl h9 rfl) ?_
        refine JL_q (wants_none rfl) rfl (ex_pick_true rfl h8 rfl) ?_
        refine JL_q (wants_none rfl) rfl (ex_move rfl) ?_
        refine JL_q (wants_some rfl rfl rfl rfl) rfl (ex_fieldAddr fi_60_2 rfl rfl) ?_
        refine JL_q (wants_some rfl rfl rfl rfl) rfl (ex_load_bx 0 ti_2 rfl rfl rfl) ?_
        refine JL_q (wants_some rfl rfl rfl rfl) rfl (ex_fieldAddr fi_35_1 rfl rfl) ?_
        refine JL_q (wants_some rfl rfl rfl rfl) rfl (ex_load_bx 1 ti_2 rfl rfl rfl) ?_
        refine JL_q (wants_some rfl rfl rfl rfl) rfl (ex_sub rfl rfl) ?_
        refine JL_bnd fun r10 hr11 => ?_
        refine JL_call (wants_some rfl rfl rfl rfl) rfl Try.call34 rfl (Ca_of0 fun w hh => c_impl_within _ w (fun _ hk => hk.elim) _ _ _ _ hr11) (fun _ => ?_)
        refine JL_q (wants_none rfl) rfl (ex_pick_true rfl rfl rfl) ?_
        refine JL_q (wants_none rfl) rfl (ex_assign rfl) ?_
        refine JL_nil ?_
        refine N_then ?_
        refine J_ret ?_
        exact N_ret1 rfl (rv_tmp rfl) (fun w hh => ⟨(), rfl, hh.sel [] rfl⟩)
      · refine JL_q (wants_some rfl rfl rfl h9) rfl (ex_fieldAddr fi_60_1 rfl rfl) ?_
        refine JL_q (wants_some rfl rfl rfl h9) rfl (ex_load_bx 0 ti_2 rfl rfl rfl) ?_
        refine JL_q (wants_some rfl rfl rfl h9) rfl (ex_eql rfl rfl) ?_
        refine JL_q (wants_some rfl rfl rfl h8) rfl (ex_pick_false rfl h9 rfl) ?_
        refine JL_q (wants_none rfl) rfl (ex_pick_true rfl h8 rfl) ?_
        refine JL_q (wants_none rfl) rfl (ex_move rfl) ?_
        refine JL_cond (fun h12 => ?_) (fun h12 => ?_)
        · refine JL_q (wants_some rfl rfl rfl h12) rfl (ex_fieldAddr fi_60_2 rfl rfl) ?_
          refine JL_q (wants_some rfl rfl rfl h12) rfl (ex_load_bx 0 ti_2 rfl rfl rfl) ?_
          refine JL_q (wants_some rfl rfl rfl h12) rfl (ex_fieldAddr fi_35_1 rfl rfl) ?_
          refine JL_q (wants_some rfl rfl rfl h12) rfl (ex_load_bx 1 ti_2 rfl rfl rfl) ?_
          refine JL_q (wants_some rfl rfl rfl h12) rfl (ex_sub rfl rfl) ?_
          refine JL_bnd fun r13 hr14 => ?_
          refine JL_call (wants_some rfl rfl rfl h12) rfl Try.call34 rfl (Ca_of0 fun w hh => c_impl_within _ w (fun _ hk => hk.elim) _ _ _ _ hr14) (fun _ => ?_)
          refine JL_q (wants_none rfl) rfl (ex_pick_true rfl h12 rfl) ?_
          refine JL_q (wants_none rfl) rfl (ex_assign rfl) ?_
          refine JL_nil ?_
          refine N_then ?_
          refine J_ret ?_
          exact N_ret1 rfl (rv_tmp rfl) (fun w hh => ⟨(), rfl, hh.sel [] rfl⟩)
        · refine JL_passed rfl rfl rfl h12 ?_
          refine JL_passed rfl rfl rfl h12 ?_
          refine JL_passed rfl rfl rfl h12 ?_
          refine JL_passed rfl rfl rfl h12 ?_
          refine JL_passed rfl rfl rfl h12 ?_
          refine JL_passed rfl rfl rfl h12 ?_
          refine JL_q (wants_none rfl) rfl (ex_pick_false rfl h12 rfl) ?_
          refine JL_q (wants_none rfl) rfl (ex_assign rfl) ?_
          refine JL_nil ?_
          refine N_then ?_
          refine J_ret ?_
          exact N_ret1 rfl (rv_tmp rfl) (fun w hh => ⟨(), rfl, hh.sel [] rfl⟩)
    · refine JL_passed rfl rfl rfl h8 ?_
      refine JL_passed rfl rfl rfl h8 ?_
      refine JL_passed rfl rfl rfl h8 ?_
      refine JL_passed rfl rfl rfl h8 ?_
      refine JL_passed_undef rfl rfl rfl ?_
      refine JL_passed_undef rfl rfl rfl ?_
      refine JL_passed_undef rfl rfl rfl ?_
      refine JL_passed rfl rfl rfl h8 ?_
      refine JL_q (wants_none rfl) rfl (ex_pick_false rfl h8 rfl) ?_
      refine JL_q (wants_none rfl) rfl (ex_move rfl) ?_
      refine JL_passed rfl rfl rfl rfl ?_
      refine JL_passed rfl rfl rfl rfl ?_
      refine JL_passed rfl rfl rfl rfl ?_
      refine JL_passed rfl rfl rfl rfl ?_
      refine JL_passed rfl rfl rfl rfl ?_
      refine JL_passed rfl rfl rfl rfl ?_
      refine JL_q (wants_none rfl) rfl (ex_pick_false rfl rfl rfl) ?_
      refine JL_q (wants_none rfl) rfl (ex_assign rfl) ?_
      refine JL_nil ?_
      refine N_then ?_
      refine J_ret ?_
      exact N_ret1 rfl (rv_tmp rfl) (fun w hh => ⟨(), rfl, hh.sel [] rfl⟩)

set_option maxHeartbeats 40000000 in
theorem c_impl_ValidMachine_1 (A : Nat → Prop) (w : World) (hA : ∀ k, A k → k < w.heap.size) (v0_ : Value) (p0 : GRule) (hp0 : Rd A w v0_ p0) (v1_ : Value) (p1 : GMachine) (hp1 : RdA A w.heap.size w v1_ p1) (r : Bool) (hr : F_impl_ValidMachine_1 p0 p1 = some r) :
    Con Try.prog 69 [v0_, v1_] A w (fun x_ : Unit => .bool r) (fun x_ => []) := by
  obtain rfl := GRule.open hp0
  refine Con_of (v := fun (r : Bool) (x_ : Unit) => .bool r) (fs := fun r x_ => []) Try.func69 rfl Try.ntmps69 rfl ((SH.start hA).start_pa' rfl hp1) rfl ?_ hr
  unfold F_impl_ValidMachine_1
  refine J_seq ?_
  refine J_region ?_
  refine JL_st (wants_none rfl) rfl (st_box' rfl (fun w hh => (cv_aggs ⟨cv_int, cv_int, cv_int, trivial⟩))) (fun b1 => ?_)
  refine JL_q (wants_none rfl) rfl (ex_assign rfl) ?_
  refine JL_nil ?_
  refine N_then ?_
  refine J_seq ?_
  refine J_region ?_
  refine JL_st (wants_none rfl) rfl (st_load_pa_o 1 (GMachine.opens _) ti_35 rfl rfl) (fun v2 => ?_)
  refine JL_q (wants_none rfl) rfl (ex_load_bx_agg 1 ti_60 rfl rfl rfl rfl) ?_
  refine JL_bnd fun r3 hr4 => ?_
  refine JL_call (wants_none rfl) rfl Try.call70 rfl (Ca_of0 fun w hh => c_impl_validRule _ w (fun _ hk => hk.elim) _ _ (GMachine.rdmk (Rd.mk_int _ _ _) (Rd.mk_int _ _ _) (hh.rd0 0 rfl)) _ _ (GRule.rdmk (Rd.mk_int _ _ _) (Rd.mk_int _ _ _) (Rd.mk_int _ _ _)) _ hr4) (fun _ => ?_)
  refine JL_q (wants_none rfl) rfl (ex_not rfl) ?_
  refine JL_q (wants_none rfl) rfl (ex_assign rfl) ?_
  refine JL_nil ?_
  refine N_then ?_
  refine J_ret ?_
  exact N_ret1 rfl (rv_tmp rfl) (fun w hh => ⟨(), rfl, hh.sel [] rfl⟩)

set_option maxHeartbeats 40000000 in
theorem c_slices_IndexFunc_Simpl_Rule_impl_Rule (A : Nat → Prop) (w : World) (hA : ∀ k, A k → k < w.heap.size) (v0_ : Value) (p0 : (List GRule)) (hp0 : Rd A w v0_ p0) (v1_ : Value) (p1 : (GRule → Option Bool)) (hp1 : Clo Try.prog w v1_ p1 .bool) (r : Int) (hr : F_slices_IndexFunc_Simpl_Rule_impl_Rule p0 p1 = some r) :
    Con Try.prog 76 [v0_, v1_] A w (fun x_ : Unit => .int .i64 r) (fun x_ => []) := by
  refine Con_of (v := fun (r : Int) (x_ : Unit) => .int .i64 r) (fs := fun r x_ => []) Try.func76 rfl Try.ntmps76 rfl ((SH.start hA).start_rd rfl hp0) rfl ?_ hr
  unfold F_slices_IndexFunc_Simpl_Rule_impl_Rule
  refine J_seq ?_
  refine J_region ?_
  refine JL_q (wants_none rfl) rfl (ex_assign rfl) ?_
  refine JL_nil ?_
  refine N_then ?_
  refine J_seq ?_
  refine J_seq ?_
  refine J_region ?_
  refine JL_q (wants_none rfl) rfl (ex_move rfl) ?_
  refine JL_q (wants_none rfl) rfl (ex_len_rd 0 Try.underlying33 rfl rfl) ?_
  refine JL_q (wants_none rfl) rfl (ex_move rfl) ?_
  refine JL_nil ?_
  refine N_then ?_
  refine J_loop' (S := Int) (G := Unit) (F_slices_IndexFunc_Simpl_Rule_impl_Rule_L1 p0 p1) (fun s1 _ => [(0, v0_), (1, v1_), (7, .int .i64 (p0.length : Int)), (8, .int .i64 s1)]) (fun s1 _ => [.rd v0_ p0]) 0 () ⟨rfl, rfl, rfl, rfl, trivial⟩ [0] rfl rfl (fun s1 g2 => ?_) (fun s1 g2 => ?_)
  · unfold F_slices_IndexFunc_Simpl_Rule_impl_Rule_L1
    refine J_seq ?_
    refine J_region ?_
    refine JL_q (wants_none rfl) rfl (ex_lss rfl rfl) ?_
    refine JL_nil ?_
    refine N_then ?_
    refine J_seq ?_
    refine J_if rfl (fun h3 => ?_) (fun h3 => ?_)
    · refine J_skip ?_
      refine N_then ?_
      refine J_seq ?_
      refine J_block ?_
      refine J_seq ?_
      refine J_region ?_
      refine JL_q (wants_none rfl) rfl (ex_move rfl) ?_
      refine JL_q (wants_none rfl) rfl (ex_assign rfl) ?_
      refine JL_nil ?_
      refine N_then ?_
      refine J_seq ?_
      refine J_region ?_
      refine JL_q (wants_none rfl) rfl (ex_move rfl) ?_
      refine JL_q (wants_none rfl) rfl (ex_move rfl) ?_
      refine JL_q (wants_none rfl) rfl (ex_move rfl) ?_
      refine JL_bnd fun y4 hy5 => ?_
      refine JL_st (wants_none rfl) rfl (st_index 0 Try.underlying33 ti_60 rfl rfl rfl hy5) (fun q6 => ?_)
      refine JL_st (wants_none rfl) rfl (st_load_pt_o 0 (GRule.opens _) ti_60 rfl rfl) (fun _ => ?_)
      refine JL_bnd fun r8 hr9 => ?_
      refine JL_clo (wants_none rfl) rfl hp1 rfl rfl (fun w hh => (GRule.rdmk (Rd.mk_int _ _ _) (Rd.mk_int _ _ _) (Rd.mk_int _ _ _))) hr9 ?_
      refine JL_nil ?_
      refine N_then ?_
      refine J_if rfl (fun h10 => ?_) (fun h10 => ?_)
      · refine J_seq ?_
        refine J_region ?_
        refine JL_q (wants_none rfl) rfl (ex_move rfl) ?_
        refine JL_q (wants_none rfl) rfl (ex_assign rfl) ?_
        refine JL_nil ?_
        refine N_then ?_
        refine J_ret ?_
        refine N_block_ret ?_
        refine N_then_ret ?_
        refine N_round_ret ?_
        refine N_then_ret ?_
        exact N_ret1 rfl (rv_tmp rfl) (fun w hh => ⟨(), rfl, hh.sel [] rfl⟩)
      · refine J_skip ?_
        refine N_block ?_
        refine N_then ?_
        refine J_region ?_
        refine JL_q (wants_none rfl) rfl (ex_add rfl rfl) ?_
        refine JL_q (wants_none rfl) rfl (ex_move rfl) ?_
        refine JL_nil ?_
        exact N_next' () ⟨rfl, rfl, rfl, rfl, trivial⟩ [1] rfl rfl
    · refine J_exit ?_
      refine N_then_exit ?_
      exact N_break' () ⟨rfl, rfl, rfl, rfl, trivial⟩ [0] rfl rfl
  · refine N_then ?_
    refine J_seq ?_
    refine J_region ?_
    refine JL_q (wants_none rfl) rfl (ex_assign rfl) ?_
    refine JL_nil ?_
    refine N_then ?_
    refine J_ret ?_
    exact N_ret1 rfl (rv_tmp rfl) (fun w hh => ⟨(), rfl, hh.sel [] rfl⟩)

set_option maxHeartbeats 40000000 in
theorem c_slices_ContainsFunc_Simpl_Rule_impl_Rule (A : Nat → Prop) (w : World) (hA : ∀ k, A k → k < w.heap.size) (v0_ : Value) (p0 : (List GRule)) (hp0 : Rd A w v0_ p0) (v1_ : Value) (p1 : (GRule → Option Bool)) (hp1 : Clo Try.prog w v1_ p1 .bool) (r : Bool) (hr : F_slices_ContainsFunc_Simpl_Rule_impl_Rule p0 p1 = some r) :
    Con Try.prog 68 [v0_, v1_] A w (fun x_ : Unit => .bool r) (fun x_ => []) := by
  refine Con_of (v := fun (r : Bool) (x_ : Unit) => .bool r) (fs := fun r x_ => []) Try.func68 rfl Try.ntmps68 rfl ((SH.start hA).start_rd rfl hp0) rfl ?_ hr
  unfold F_slices_ContainsFunc_Simpl_Rule_impl_Rule
  refine J_seq ?_
  refine J_region ?_
  refine JL_q (wants_none rfl) rfl (ex_assign rfl) ?_
  refine JL_nil ?_
  refine N_then ?_
  refine J_seq ?_
  refine J_region ?_
  refine JL_q (wants_none rfl) rfl (ex_move rfl) ?_
  refine JL_q (wants_none rfl) rfl (ex_move rfl) ?_
  refine JL_bnd fun r1 hr2 => ?_
  refine JL_call (wants_none rfl) rfl Try.call76 rfl (Ca_of0 fun w hh => c_slices_IndexFunc_Simpl_Rule_impl_Rule _ w (fun _ hk => hk.elim) _ _ (hh.rd0 0 rfl) _ _ (hp1.later hh.below) _ hr2) (fun _ => ?_)
  refine JL_q (wants_none rfl) rfl (ex_geq rfl rfl) ?_
  refine JL_q (wants_none rfl) rfl (ex_assign rfl) ?_
  refine JL_nil ?_
  refine N_then ?_
  refine J_ret ?_
  exact N_ret1 rfl (rv_tmp rfl) (fun w hh => ⟨(), rfl, hh.sel [] rfl⟩)

set_option maxHeartbeats 40000000 in
theorem c_impl_ValidMachine (A : Nat → Prop) (w : World) (hA : ∀ k, A k → k < w.heap.size) (v0_ : Value) (p0 : GMachine) (hp0 : Rd A w v0_ p0) (r : Bool) (hr : F_impl_ValidMachine p0 = some r) :
    Con Try.prog 55 [v0_] A w (fun x_ : Unit => .bool r) (fun x_ => []) := by
  obtain ⟨v0_0, rfl, hp0_0⟩ := GMachine.open hp0
  refine Con_of (v := fun (r : Bool) (x_ : Unit) => .bool r) (fs := fun r x_ => []) Try.func55 rfl Try.ntmps55 rfl ((SH.start hA).start_rd rfl hp0_0) rfl ?_ hr
  unfold F_impl_ValidMachine
  refine J_seq ?_
  refine J_region ?_
  refine JL_st (wants_none rfl) rfl (st_box' rfl (fun w hh => (cv_aggs ⟨cv_int, cv_int, (hh.cv 0 rfl), trivial⟩))) (fun b1 => ?_)
  refine JL_q (wants_none rfl) rfl (ex_assign rfl) ?_
  refine JL_nil ?_
  refine N_then ?_
  refine J_seq ?_
  refine J_seq ?_
  refine J_draw [] (by kernel_rfl) ?_
  refine JP_take (i := 0) [0, 1] [] rfl (by kernel_rfl) (by kernel_rfl) (by kernel_rfl) rfl rfl (wants_none rfl) rfl (ex_fieldAddr fi_35_0 rfl rfl) ?_
  refine JP_take (i := 1) [0, 1] [] rfl (by kernel_rfl) (by kernel_rfl) (by kernel_rfl) rfl rfl (wants_none rfl) rfl (ex_load_bx 0 ti_2 rfl rfl rfl) ?_
  refine JP_go [0, 1] [] rfl rfl rfl (fun w3 h1_4 hp2 => ?_)
  refine JD_bnd fun r5 hr6 => ?_
  refine JD_one (i := 2) (by kernel_rfl) ?_
  refine JO_call rfl (wants_none rfl) rfl Try.call34 rfl (Ca_of0 fun w hh => c_impl_within _ w (fun _ hk => hk.elim) _ _ _ _ hr6) (fun _ => ?_)
  refine JD_take (i := 3) hp2 rfl (by kernel_rfl) (by kernel_rfl) (by kernel_rfl) (wants_none rfl) rfl (ex_not rfl) ?_
  refine JD_take (i := 4) hp2 rfl (by kernel_rfl) (by kernel_rfl) (by kernel_rfl) (wants_none rfl) rfl (ex_move rfl) ?_
  refine JD_cond (fun h7 => ?_) (fun h7 => ?_)
  · refine JD_pass (i := 5) rfl (by kernel_rfl) (by kernel_rfl) (by kernel_rfl) rfl rfl h7 rfl ?_
    refine JD_pass (i := 6) rfl (by kernel_rfl) (by kernel_rfl) (by kernel_rfl) rfl rfl h7 rfl ?_
    refine JD_pass (i := 7) rfl (by kernel_rfl) (by kernel_rfl) (by kernel_rfl) rfl rfl h7 rfl ?_
    refine JD_pass (i := 8) rfl (by kernel_rfl) (by kernel_rfl) (by kernel_rfl) rfl rfl h7 rfl ?_
    refine JD_take (i := 9) hp2 rfl (by kernel_rfl) (by kernel_rfl) (by kernel_rfl) (wants_none rfl) rfl (ex_pick_true rfl h7 rfl) ?_
    refine JD_take (i := 10) hp2 rfl (by kernel_rfl) (by kernel_rfl) (by kernel_rfl) (wants_none rfl) rfl (ex_move rfl) ?_
    refine JD_pass (i := 11) rfl (by kernel_rfl) (by kernel_rfl) (by kernel_rfl) rfl rfl rfl rfl ?_
    refine JD_pass (i := 12) rfl (by kernel_rfl) (by kernel_rfl) (by kernel_rfl) rfl rfl rfl rfl ?_
    refine JD_pass (i := 13) rfl (by kernel_rfl) (by kernel_rfl) (by kernel_rfl) rfl rfl rfl rfl ?_
    refine JD_pass (i := 14) rfl (by kernel_rfl) (by kernel_rfl) (by kernel_rfl) rfl rfl rfl rfl ?_
    refine JD_pass (i := 15) rfl (by kernel_rfl) (by kernel_rfl) (by kernel_rfl) rfl rfl rfl rfl ?_
    refine JD_pass (i := 16) rfl (by kernel_rfl) (by kernel_rfl) (by kernel_rfl) rfl rfl rfl rfl ?_
    refine JD_pass (i := 17) rfl (by kernel_rfl) (by kernel_rfl) (by kernel_rfl) rfl rfl rfl rfl ?_
    refine JD_pass (i := 18) rfl (by kernel_rfl) (by kernel_rfl) (by kernel_rfl) rfl rfl rfl rfl ?_
    refine JD_pass (i := 19) rfl (by kernel_rfl) (by kernel_rfl) (by kernel_rfl) rfl rfl rfl rfl ?_
    refine JD_take (i := 20) hp2 rfl (by kernel_rfl) (by kernel_rfl) (by kernel_rfl) (wants_none rfl) rfl (ex_pick_true rfl rfl rfl) ?_
    refine JD_done (by kernel_rfl) ?_
    refine N_then ?_
    refine J_if_true rfl rfl ?_
    refine J_seq ?_
    refine J_region ?_
    refine JL_q (wants_none rfl) rfl (ex_assign rfl) ?_
    refine JL_nil ?_
    refine N_then ?_
    refine J_ret ?_
    refine N_then_ret ?_
    exact N_ret1 rfl (rv_tmp rfl) (fun w hh => ⟨(), rfl, hh.sel [] rfl⟩)
  · refine JD_take (i := 5) hp2 rfl (by kernel_rfl) (by kernel_rfl) (by kernel_rfl) (wants_some rfl rfl rfl h7) rfl (ex_fieldAddr fi_35_1 rfl rfl) ?_
    refine JD_take (i := 6) hp2 rfl (by kernel_rfl) (by kernel_rfl) (by kernel_rfl) (wants_some rfl rfl rfl h7) rfl (ex_load_bx 0 ti_2 rfl rfl rfl) ?_
    refine JD_bnd fun r8 hr9 => ?_
    refine JD_one (i := 7) (by kernel_rfl) ?_
    refine JO_call rfl (wants_some rfl rfl rfl h7) rfl Try.call34 rfl (Ca_of0 fun w hh => c_impl_within _ w (fun _ hk => hk.elim) _ _ _ _ hr9) (fun _ => ?_)
    refine JD_take (i := 8) hp2 rfl (by kernel_rfl) (by kernel_rfl) (by kernel_rfl) (wants_some rfl rfl rfl h7) rfl (ex_not rfl) ?_
    refine JD_take (i := 9) hp2 rfl (by kernel_rfl) (by kernel_rfl) (by kernel_rfl) (wants_none rfl) rfl (ex_pick_false rfl h7 rfl) ?_
    refine JD_take (i := 10) hp2 rfl (by kernel_rfl) (by kernel_rfl) (by kernel_rfl) (wants_none rfl) rfl (ex_move rfl) ?_
    refine JD_cond (fun h10 => ?_) (fun h10 => ?_)
    · refine JD_pass (i := 11) rfl (by kernel_rfl) (by kernel_rfl) (by kernel_rfl) rfl rfl h10 rfl ?_
      refine JD_pass (i := 12) rfl (by kernel_rfl) (by kernel_rfl) (by kernel_rfl) rfl rfl h10 rfl ?_
      refine JD_pass (i := 13) rfl (by kernel_rfl) (by kernel_rfl) (by kernel_rfl) rfl rfl h10 rfl ?_
      refine JD_pass (i := 14) rfl (by kernel_rfl) (by kernel_rfl) (by kernel_rfl) rfl rfl h10 rfl ?_
      refine JD_pass (i := 15) rfl (by kernel_rfl) (by kernel_rfl) (by kernel_rfl) rfl rfl h10 rfl ?_
      refine JD_pass (i := 16) rfl (by kernel_rfl) (by kernel_rfl) (by kernel_rfl) rfl rfl h10 rfl ?_
      refine JD_pass (i := 17) rfl (by kernel_rfl) (by kernel_rfl) (by kernel_rfl) rfl rfl h10 rfl ?_
      refine JD_pass (i := 18) rfl (by kernel_rfl) (by kernel_rfl) (by kernel_rfl) rfl rfl h10 rfl ?_
      refine JD_pass (i := 19) rfl (by kernel_rfl) (by kernel_rfl) (by kernel_rfl) rfl rfl h10 rfl ?_
      refine JD_take (i := 20) hp2 rfl (by kernel_rfl) (by kernel_rfl) (by kernel_rfl) (wants_none rfl) rfl (ex_pick_true rfl h10 rfl) ?_
      refine JD_done (by kernel_rfl) ?_
      refine N_then ?_
      refine J_if_true rfl rfl ?_
      refine J_seq ?_
      refine J_region ?_
      refine JL_q (wants_none rfl) rfl (ex_assign rfl) ?_
      refine JL_nil ?_
      refine N_then ?_
      refine J_ret ?_
      refine N_then_ret ?_
      exact N_ret1 rfl (rv_tmp rfl) (fun w hh => ⟨(), rfl, hh.sel [] rfl⟩)
    · refine JD_take (i := 11) hp2 rfl (by kernel_rfl) (by kernel_rfl) (by kernel_rfl) (wants_some rfl rfl rfl h10) rfl (ex_fieldAddr fi_35_2 rfl rfl) ?_
      refine JD_take (i := 12) hp2 rfl (by kernel_rfl) (by kernel_rfl) (by kernel_rfl) (wants_some rfl rfl rfl h10) rfl (ex_load_bx 0 ti_33 rfl rfl rfl) ?_
      refine JD_take (i := 14) hp2 rfl (by kernel_rfl) (by kernel_rfl) (by kernel_rfl) (wants_some rfl rfl rfl h10) rfl (ex_fieldAddr fi_35_1 rfl rfl) ?_
      refine JD_take (i := 15) hp2 rfl (by kernel_rfl) (by kernel_rfl) (by kernel_rfl) (wants_some rfl rfl rfl h10) rfl (ex_load_bx 0 ti_2 rfl rfl rfl) ?_
      refine JD_take (i := 16) hp2 rfl (by kernel_rfl) (by kernel_rfl) (by kernel_rfl) (wants_some rfl rfl rfl h10) rfl (ex_fieldAddr fi_35_0 rfl rfl) ?_
      refine JD_take (i := 17) hp2 rfl (by kernel_rfl) (by kernel_rfl) (by kernel_rfl) (wants_some rfl rfl rfl h10) rfl (ex_load_bx 0 ti_2 rfl rfl rfl) ?_
      refine JD_take (i := 18) hp2 rfl (by kernel_rfl) (by kernel_rfl) (by kernel_rfl) (wants_some rfl rfl rfl h10) rfl (ex_mul rfl rfl) ?_
      refine JD_bnd fun r11 hr12 => ?_
      refine JD_one (i := 13) (by kernel_rfl) ?_
      refine JO_call rfl (wants_some rfl rfl rfl h10) rfl Try.call67 rfl (Ca_of0 fun w hh => c_impl_size_impl_Rule _ w (fun _ hk => hk.elim) _ _ (hh.rd0 1 rfl) _ hr12) (fun _ => ?_)
      refine JD_take (i := 19) hp2 rfl (by kernel_rfl) (by kernel_rfl) (by kernel_rfl) (wants_some rfl rfl rfl h10) rfl (ex_neq rfl rfl) ?_
      refine JD_take (i := 20) hp2 rfl (by kernel_rfl) (by kernel_rfl) (by kernel_rfl) (wants_none rfl) rfl (ex_pick_false rfl h10 rfl) ?_
      refine JD_done (by kernel_rfl) ?_
      refine N_then ?_
      refine J_if rfl (fun h13 => ?_) (fun h13 => ?_)
      · refine J_seq ?_
        refine J_region ?_
        refine JL_q (wants_none rfl) rfl (ex_assign rfl) ?_
        refine JL_nil ?_
        refine N_then ?_
        refine J_ret ?_
        refine N_then_ret ?_
        exact N_ret1 rfl (rv_tmp rfl) (fun w hh => ⟨(), rfl, hh.sel [] rfl⟩)
      · refine J_skip ?_
        refine N_then ?_
        refine J_seq ?_
        refine J_region ?_
        refine JL_q (wants_none rfl) rfl (ex_fieldAddr fi_35_2 rfl rfl) ?_
        refine JL_q (wants_none rfl) rfl (ex_load_bx 0 ti_33 rfl rfl rfl) ?_
        refine JL_q (wants_none rfl) rfl (ex_makeFunc rfl) ?_
        refine JL_bnd fun r14 hr15 => ?_
        refine JL_call (wants_none rfl) rfl Try.call68 rfl (Ca_of0 fun w hh => c_slices_ContainsFunc_Simpl_Rule_impl_Rule _ w (fun _ hk => hk.elim) _ _ (hh.rd0 1 rfl) _ _ (Clo.mk (caps := [.pointer (some ⟨b1, 0, none⟩)]) Try.call69 (fun w_ hb_ v_ x_ r_ hrd_ hr_ => c_impl_ValidMachine_1 nowhere w_ (fun _ hk => hk.elim) v_ x_ hrd_ _ _ ((hh.bx_pa 0 rfl (GMachine.rdmk (Rd.mk_int _ _ _) (Rd.mk_int _ _ _) (hh.rd0 1 rfl)) rfl).later hb_) _ hr_)) _ hr15) (fun _ => ?_)
        refine JL_q (wants_none rfl) rfl (ex_not rfl) ?_
        refine JL_q (wants_none rfl) rfl (ex_assign rfl) ?_
        refine JL_nil ?_
        refine N_then ?_
        refine J_ret ?_
        exact N_ret1 rfl (rv_tmp rfl) (fun w hh => ⟨(), rfl, hh.sel [] rfl⟩)

set_option maxHeartbeats 40000000 in
theorem c_impl_size_int64 (A : Nat → Prop) (w : World) (hA : ∀ k, A k → k < w.heap.size) (v0_ : Value) (p0 : (List Int)) (hp0 : Rd A w v0_ p0) (r : Int) (hr : F_impl_size_int64 p0 = some r) :
    Con Try.prog 57 [v0_] A w (fun x_ : Unit => .int .i64 r) (fun x_ => []) := by
  refine Con_of (v := fun (r : Int) (x_ : Unit) => .int .i64 r) (fs := fun r x_ => []) Try.func57 rfl Try.ntmps57 rfl ((SH.start hA).start_rd rfl hp0) rfl ?_ hr
  unfold F_impl_size_int64
  refine J_seq ?_
  refine J_region ?_
  refine JL_q (wants_none rfl) rfl (ex_assign rfl) ?_
  refine JL_nil ?_
  refine N_then ?_
  refine J_seq ?_
  refine J_region ?_
  refine JL_q (wants_none rfl) rfl (ex_move rfl) ?_
  refine JL_q (wants_none rfl) rfl (ex_len_rd 0 Try.underlying25 rfl rfl) ?_
  refine JL_q (wants_none rfl) rfl (ex_assign rfl) ?_
  refine JL_nil ?_
  refine N_then ?_
  refine J_ret ?_
  exact N_ret1 rfl (rv_tmp rfl) (fun w hh => ⟨(), rfl, hh.sel [] rfl⟩)

set_option maxHeartbeats 40000000 in
theorem c_impl_allWithin (A : Nat → Prop) (w : World) (hA : ∀ k, A k → k < w.heap.size) (v0_ : Value) (p0 : (List Int)) (hp0 : Rd A w v0_ p0) (p1 : Int) (p2 : Int) (r : Bool) (hr : F_impl_allWithin p0 p1 p2 = some r) :
    Con Try.prog 77 [v0_, .int .i64 p1, .int .i64 p2] A w (fun x_ : Unit => .bool r) (fun x_ => []) := by
  refine Con_of (v := fun (r : Bool) (x_ : Unit) => .bool r) (fs := fun r x_ => []) Try.func77 rfl Try.ntmps77 rfl ((SH.start hA).start_rd rfl hp0) rfl ?_ hr
  unfold F_impl_allWithin
  refine J_seq ?_
  refine J_region ?_
  refine JL_q (wants_none rfl) rfl (ex_assign rfl) ?_
  refine JL_nil ?_
  refine N_then ?_
  refine J_seq ?_
  refine J_seq ?_
  refine J_region ?_
  refine JL_q (wants_none rfl) rfl (ex_move rfl) ?_
  refine JL_q (wants_none rfl) rfl (ex_len_rd 0 Try.underlying25 rfl rfl) ?_
  refine JL_q (wants_none rfl) rfl (ex_move rfl) ?_
  refine JL_nil ?_
  refine N_then ?_
  refine J_loop' (S := Int) (G := Unit) (F_impl_allWithin_L1 p0 p1 p2) (fun s1 _ => [(1, .int .i64 p1), (2, .int .i64 p2), (9, v0_), (10, .int .i64 (p0.length : Int)), (11, .int .i64 s1)]) (fun s1 _ => [.rd v0_ p0]) 0 () ⟨rfl, rfl, rfl, rfl, rfl, trivial⟩ [0] rfl rfl (fun s1 g2 => ?_) (fun s1 g2 => ?_)
  · unfold F_impl_allWithin_L1
    refine J_seq ?_
    refine J_region ?_
    refine JL_q (wants_none rfl) rfl (ex_lss rfl rfl) ?_
    refine JL_nil ?_
    refine N_then ?_
    refine J_seq ?_
    refine J_if rfl (fun h3 => ?_) (fun h3 => ?_)
    · refine J_skip ?_
      refine N_then ?_
      refine J_seq ?_
      refine J_block ?_
      refine J_seq ?_
      refine J_region ?_
      refine JL_bnd fun y4 hy5 => ?_
      refine JL_st (wants_none rfl) rfl (st_index 0 Try.underlying25 ti_2 rfl rfl rfl hy5) (fun q6 => ?_)
      refine JL_st (wants_none rfl) rfl (st_load_pt_o 0 (opens_int _) ti_2 rfl rfl) (fun _ => ?_)
      refine JL_q (wants_none rfl) rfl (ex_assign rfl) ?_
      refine JL_nil ?_
      refine N_then ?_
      refine J_seq ?_
      refine J_region ?_
      refine JL_q (wants_none rfl) rfl (ex_move rfl) ?_
      refine JL_q (wants_none rfl) rfl (ex_move rfl) ?_
      refine JL_q (wants_none rfl) rfl (ex_move rfl) ?_
      refine JL_bnd fun r8 hr9 => ?_
      refine JL_call (wants_none rfl) rfl Try.call34 rfl (Ca_of0 fun w hh => c_impl_within _ w (fun _ hk => hk.elim) _ _ _ _ hr9) (fun _ => ?_)
      refine JL_q (wants_none rfl) rfl (ex_not rfl) ?_
      refine JL_nil ?_
      refine N_then ?_
      refine J_if rfl (fun h10 => ?_) (fun h10 => ?_)
      · refine J_seq ?_
        refine J_region ?_
        refine JL_q (wants_none rfl) rfl (ex_assign rfl) ?_
        refine JL_nil ?_
        refine N_then ?_
        refine J_ret ?_
        refine N_block_ret ?_
        refine N_then_ret ?_
        refine N_round_ret ?_
        refine N_then_ret ?_
        exact N_ret1 rfl (rv_tmp rfl) (fun w hh => ⟨(), rfl, hh.sel [] rfl⟩)
      · refine J_skip ?_
        refine N_block ?_
        refine N_then ?_
        refine J_region ?_
        refine JL_q (wants_none rfl) rfl (ex_add rfl rfl) ?_
        refine JL_q (wants_none rfl) rfl (ex_move rfl) ?_
        refine JL_nil ?_
        exact N_next' () ⟨rfl, rfl, rfl, rfl, rfl, trivial⟩ [1] rfl rfl
    · refine J_exit ?_
      refine N_then_exit ?_
      exact N_break' () ⟨rfl, rfl, rfl, rfl, rfl, trivial⟩ [0] rfl rfl
  · refine N_then ?_
    refine J_seq ?_
    refine J_region ?_
    refine JL_q (wants_none rfl) rfl (ex_assign rfl) ?_
    refine JL_nil ?_
    refine N_then ?_
    refine J_ret ?_
    exact N_ret1 rfl (rv_tmp rfl) (fun w hh => ⟨(), rfl, hh.sel [] rfl⟩)

set_option maxHeartbeats 40000000 in
theorem c_impl_validSide (A : Nat → Prop) (w : World) (hA : ∀ k, A k → k < w.heap.size) (v0_ : Value) (p0 : (List Int)) (hp0 : Rd A w v0_ p0) (p1 : Int) (p2 : Int) (r : Bool) (hr : F_impl_validSide p0 p1 p2 = some r) :
    Con Try.prog 71 [v0_, .int .i64 p1, .int .i64 p2] A w (fun x_ : Unit => .bool r) (fun x_ => []) := by
  refine Con_of (v := fun (r : Bool) (x_ : Unit) => .bool r) (fs := fun r x_ => []) Try.func71 rfl Try.ntmps71 rfl ((SH.start hA).start_rd rfl hp0) rfl ?_ hr
  unfold F_impl_validSide
  refine J_seq ?_
  refine J_region ?_
  refine JL_q (wants_none rfl) rfl (ex_assign rfl) ?_
  refine JL_nil ?_
  refine N_then ?_
  refine J_seq ?_
  refine J_region ?_
  refine JL_q (wants_none rfl) rfl (ex_move rfl) ?_
  refine JL_bnd fun r1 hr2 => ?_
  refine JL_call (wants_none rfl) rfl Try.call57 rfl (Ca_of0 fun w hh => c_impl_size_int64 _ w (fun _ hk => hk.elim) _ _ (hh.rd0 0 rfl) _ hr2) (fun _ => ?_)
  refine JL_q (wants_none rfl) rfl (ex_move rfl) ?_
  refine JL_q (wants_none rfl) rfl (ex_leq rfl rfl) ?_
  refine JL_q (wants_none rfl) rfl (ex_move rfl) ?_
  refine JL_cond (fun h3 => ?_) (fun h3 => ?_)
  · refine JL_q (wants_some rfl rfl rfl h3) rfl (ex_move rfl) ?_
    refine JL_q (wants_some rfl rfl rfl h3) rfl (ex_move rfl) ?_
    refine JL_q (wants_some rfl rfl rfl h3) rfl (ex_sub rfl rfl) ?_
    refine JL_bnd fun r4 hr5 => ?_
    refine JL_call (wants_some rfl rfl rfl h3) rfl Try.call77 rfl (Ca_of0 fun w hh => c_impl_allWithin _ w (fun _ hk => hk.elim) _ _ (hh.rd0 0 rfl) _ _ _ hr5) (fun _ => ?_)
    refine JL_q (wants_none rfl) rfl (ex_pick_true rfl h3 rfl) ?_
    refine JL_q (wants_none rfl) rfl (ex_move rfl) ?_
    refine JL_cond (fun h6 => ?_) (fun h6 => ?_)
    · refine JL_q (wants_some rfl rfl rfl h6) rfl (ex_move rfl) ?_
      refine JL_q (wants_some rfl rfl rfl h6) rfl (ex_len_rd 0 Try.underlying25 rfl rfl) ?_
      refine JL_q (wants_some rfl rfl rfl h6) rfl (ex_eql rfl rfl) ?_
      refine JL_q (wants_some rfl rfl rfl h6) rfl (ex_move rfl) ?_
      refine JL_cond (fun h7 => ?_) (fun h7 => ?_)
      · refine JL_passed rfl rfl rfl h7 ?_
        refine JL_passed rfl rfl rfl h7 ?_
        refine JL_passed rfl rfl rfl h7 ?_
        refine JL_passed rfl rfl rfl h7 ?_
        refine JL_passed rfl rfl rfl h7 ?_
        refine JL_passed rfl rfl rfl h7 ?_
        refine JL_passed rfl rfl rfl h7 ?_
        refine JL_q (wants_some rfl rfl rfl h6) rfl (ex_pick_true rfl h7 rfl) ?_
        refine JL_q (wants_none rfl) rfl (ex_pick_true rfl h6 rfl) ?_
        refine JL_q (wants_none rfl) rfl (ex_assign rfl) ?_
        refine JL_nil ?_
        refine N_then ?_
        refine J_ret ?_
        exact N_ret1 rfl (rv_tmp rfl) (fun w hh => ⟨(), rfl, hh.sel [] rfl⟩)
      · refine JL_q (wants_some rfl rfl rfl h7) rfl (ex_move rfl) ?_
        refine JL_q (wants_some rfl rfl rfl h7) rfl (ex_move rfl) ?_
        refine JL_q (wants_some rfl rfl rfl h7) rfl (ex_len_rd 0 Try.underlying25 rfl rfl) ?_
        refine JL_q (wants_some rfl rfl rfl h7) rfl (ex_sub rfl rfl) ?_
        refine JL_bnd fun y8 hy9 => ?_
        refine JL_st (wants_some rfl rfl rfl h7) rfl (st_index 0 Try.underlying25 ti_2 rfl rfl rfl hy9) (fun q10 => ?_)
        refine JL_st (wants_some rfl rfl rfl h7) rfl (st_load_pt_o 0 (opens_int _) ti_2 rfl rfl) (fun _ => ?_)
        refine JL_q (wants_some rfl rfl rfl h7) rfl (ex_neq rfl rfl) ?_
        refine JL_q (wants_some rfl rfl rfl h6) rfl (ex_pick_false rfl h7 rfl) ?_
        refine JL_q (wants_none rfl) rfl (ex_pick_true rfl h6 rfl) ?_
        refine JL_q (wants_none rfl) rfl (ex_assign rfl) ?_
        refine JL_nil ?_
        refine N_then ?_
        refine J_ret ?_
        exact N_ret1 rfl (rv_tmp rfl) (fun w hh => ⟨(), rfl, hh.sel [] rfl⟩)
    · refine JL_passed rfl rfl rfl h6 ?_
      refine JL_passed rfl rfl rfl h6 ?_
      refine JL_passed rfl rfl rfl h6 ?_
      refine JL_passed rfl rfl rfl h6 ?_
      refine JL_passed_undef rfl rfl rfl ?_
      refine JL_passed_undef rfl rfl rfl ?_
      refine JL_passed_undef rfl rfl rfl ?_
      refine JL_passed_undef rfl rfl rfl ?_
      refine JL_passed_undef rfl rfl rfl ?_
      refine JL_passed_undef rfl rfl rfl ?_
      refine JL_passed_undef rfl rfl rfl ?_
      refine JL_passed rfl rfl rfl h6 ?_
      refine JL_q (wants_none rfl) rfl (ex_pick_false rfl h6 rfl) ?_
      refine JL_q (wants_none rfl) rfl (ex_assign rfl) ?_
      refine JL_nil ?_
      refine N_then ?_
      refine J_ret ?_
      exact N_ret1 rfl (rv_tmp rfl) (fun w hh => ⟨(), rfl, hh.sel [] rfl⟩)
  · refine JL_passed rfl rfl rfl h3 ?_
    refine JL_passed rfl rfl rfl h3 ?_
    refine JL_passed rfl rfl rfl h3 ?_
    refine JL_passed rfl rfl rfl h3 ?_
    refine JL_q (wants_none rfl) rfl (ex_pick_false rfl h3 rfl) ?_
    refine JL_q (wants_none rfl) rfl (ex_move rfl) ?_
    refine JL_passed rfl rfl rfl rfl ?_
    refine JL_passed rfl rfl rfl rfl ?_
    refine JL_passed rfl rfl rfl rfl ?_
    refine JL_passed rfl rfl rfl rfl ?_
    refine JL_passed_undef rfl rfl rfl ?_
    refine JL_passed_undef rfl rfl rfl ?_
    refine JL_passed_undef rfl rfl rfl ?_
    refine JL_passed_undef rfl rfl rfl ?_
    refine JL_passed_undef rfl rfl rfl ?_
    refine JL_passed_undef rfl rfl rfl ?_
    refine JL_passed_undef rfl rfl rfl ?_
    refine JL_passed rfl rfl rfl rfl ?_
    refine JL_q (wants_none rfl) rfl (ex_pick_false rfl rfl rfl) ?_
    refine JL_q (wants_none rfl) rfl (ex_assign rfl) ?_
    refine JL_nil ?_
    refine N_then ?_
    refine J_ret ?_
    exact N_ret1 rfl (rv_tmp rfl) (fun w hh => ⟨(), rfl, hh.sel [] rfl⟩)

end Go.Proofs.Ytbhehmmlkiljeaa
