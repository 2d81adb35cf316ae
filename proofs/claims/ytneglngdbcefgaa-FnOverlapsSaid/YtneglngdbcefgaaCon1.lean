/-
  Each function of the program computes what its plain function says: printed by program. No condition.
-/
import Derived.Test.YtneglngdbcefgaaFn
import Derived.Test.YtneglngdbcefgaaInf
namespace Go.Proofs.Ytneglngdbcefgaa
open Go Go.Tc Go.Fn
set_option linter.unusedVariables false

set_option maxHeartbeats 40000000 in
theorem c_spec_l00In (A : Nat → Prop) (w : World) (hA : ∀ k, A k → k < w.heap.size) (p0 : Int) (p1 : Int) (p2 : Int) (r : Bool) (hr : F_spec_l00In p0 p1 p2 = some r) :
    Con Try.prog 81 [.int .i64 p0, .int .i64 p1, .int .i64 p2] A w (fun x_ : Unit => .bool r) (fun x_ => []) := by
  refine Con_of (v := fun (r : Bool) (x_ : Unit) => .bool r) (fs := fun r x_ => []) Try.func81 rfl Try.ntmps81 rfl (SH.start hA) rfl ?_ hr
  unfold F_spec_l00In
  refine J_seq ?_
  refine J_region ?_
  refine JL_q (wants_none rfl) rfl (ex_assign rfl) ?_
  refine JL_nil ?_
  refine N_then ?_
  refine J_seq ?_
  refine J_region ?_
  refine JL_q (wants_none rfl) rfl (ex_move rfl) ?_
  refine JL_q (wants_none rfl) rfl (ex_move rfl) ?_
  refine JL_q (wants_none rfl) rfl (ex_geq rfl rfl) ?_
  refine JL_q (wants_none rfl) rfl (ex_move rfl) ?_
  refine JL_cond (fun h1 => ?_) (fun h1 => ?_)
  · refine JL_q (wants_some rfl rfl rfl h1) rfl (ex_move rfl) ?_
    refine JL_q (wants_some rfl rfl rfl h1) rfl (ex_move rfl) ?_
    refine JL_q (wants_some rfl rfl rfl h1) rfl (ex_leq rfl rfl) ?_
    refine JL_q (wants_none rfl) rfl (ex_pick_true rfl h1 rfl) ?_
    refine JL_q (wants_none rfl) rfl (ex_assign rfl) ?_
    refine JL_nil ?_
    refine N_then ?_
    refine J_ret ?_
    exact N_ret1 rfl (rv_tmp rfl) (fun w hh => ⟨(), rfl, hh.sel [] rfl⟩)
  · refine JL_passed rfl rfl rfl h1 ?_
    refine JL_passed rfl rfl rfl h1 ?_
    refine JL_passed rfl rfl rfl h1 ?_
    refine JL_q (wants_none rfl) rfl (ex_pick_false rfl h1 rfl) ?_
    refine JL_q (wants_none rfl) rfl (ex_assign rfl) ?_
    refine JL_nil ?_
    refine N_then ?_
    refine J_ret ?_
    exact N_ret1 rfl (rv_tmp rfl) (fun w hh => ⟨(), rfl, hh.sel [] rfl⟩)

set_option maxHeartbeats 40000000 in
theorem c_spec_l03Is (A : Nat → Prop) (w : World) (hA : ∀ k, A k → k < w.heap.size) (v0_ : Value) (p0 : (List Int)) (hp0 : Rd A w v0_ p0) (r : Bool) (hr : F_spec_l03Is p0 = some r) :
    Con Try.prog 36 [v0_] A w (fun x_ : Unit => .bool r) (fun x_ => []) := by
  refine Con_of (v := fun (r : Bool) (x_ : Unit) => .bool r) (fs := fun r x_ => []) Try.func36 rfl Try.ntmps36 rfl ((SH.start hA).start_rd rfl hp0) rfl ?_ hr
  unfold F_spec_l03Is
  refine J_seq ?_
  refine J_region ?_
  refine JL_q (wants_none rfl) rfl (ex_assign rfl) ?_
  refine JL_nil ?_
  refine N_then ?_
  refine J_seq ?_
  refine J_seq ?_
  refine J_region ?_
  refine JL_q (wants_none rfl) rfl (ex_assign rfl) ?_
  refine JL_nil ?_
  refine N_then ?_
  refine J_loop' (S := Int) (G := Unit) (F_spec_l03Is_L1 p0) (fun s1 _ => [(0, v0_), (3, .int .i64 s1)]) (fun s1 _ => [.rd v0_ p0]) 0 () ⟨rfl, rfl, trivial⟩ [0] rfl rfl (fun s1 g2 => ?_) (fun s1 g2 => ?_)
  · unfold F_spec_l03Is_L1
    refine J_seq ?_
    refine J_seq ?_
    refine J_region ?_
    refine JL_q (wants_none rfl) rfl (ex_move rfl) ?_
    refine JL_q (wants_none rfl) rfl (ex_move rfl) ?_
    refine JL_q (wants_none rfl) rfl (ex_len_rd 0 Try.underlying23 rfl rfl) ?_
    refine JL_q (wants_none rfl) rfl (ex_lss rfl rfl) ?_
    refine JL_nil ?_
    refine N_then ?_
    refine J_if rfl (fun h3 => ?_) (fun h3 => ?_)
    · refine J_skip ?_
      refine N_then ?_
      refine J_seq ?_
      refine J_block ?_
      refine J_seq ?_
      refine J_region ?_
      refine JL_q (wants_none rfl) rfl (ex_move rfl) ?_
      refine JL_q (wants_none rfl) rfl (ex_move rfl) ?_
      refine JL_bnd fun y4 hy5 => ?_
      refine JL_st (wants_none rfl) rfl (st_index 0 Try.underlying23 ti_2 rfl rfl rfl hy5) (fun q6 => ?_)
      refine JL_st (wants_none rfl) rfl (st_load_pt_o 0 (opens_int _) ti_2 rfl rfl) (fun _ => ?_)
      refine JL_bnd fun r8 hr9 => ?_
      refine JL_call (wants_none rfl) rfl Try.call81 rfl (Ca_of0 fun w hh => c_spec_l00In _ w (fun _ hk => hk.elim) _ _ _ _ hr9) (fun _ => ?_)
      refine JL_q (wants_none rfl) rfl (ex_not rfl) ?_
      refine JL_nil ?_
      refine N_then ?_
      refine J_if rfl (fun h10 => ?_) (fun h10 => ?_)
      · refine J_seq ?_
        refine J_region ?_
        refine JL_q (wants_none rfl) rfl (ex_assign rfl) ?_
        refine JL_nil ?_
        refine N_then ?_
        refine J_ret ?_
        refine N_block_ret ?_
        refine N_then_ret ?_
        refine N_round_ret ?_
        refine N_then_ret ?_
        exact N_ret1 rfl (rv_tmp rfl) (fun w hh => ⟨(), rfl, hh.sel [] rfl⟩)
      · refine J_skip ?_
        refine N_block ?_
        refine N_then ?_
        refine J_region ?_
        refine JL_q (wants_none rfl) rfl (ex_move rfl) ?_
        refine JL_q (wants_none rfl) rfl (ex_add rfl rfl) ?_
        refine JL_q (wants_none rfl) rfl (ex_assign rfl) ?_
        refine JL_nil ?_
        exact N_next' () ⟨rfl, rfl, trivial⟩ [1] rfl rfl
    · refine J_exit ?_
      refine N_then_exit ?_
      exact N_break' () ⟨rfl, rfl, trivial⟩ [0] rfl rfl
  · refine N_then ?_
    refine J_seq ?_
    refine J_region ?_
    refine JL_q (wants_none rfl) rfl (ex_move rfl) ?_
    refine JL_q (wants_none rfl) rfl (ex_len_rd 0 Try.underlying23 rfl rfl) ?_
    refine JL_q (wants_none rfl) rfl (ex_leq rfl rfl) ?_
    refine JL_q (wants_none rfl) rfl (ex_assign rfl) ?_
    refine JL_nil ?_
    refine N_then ?_
    refine J_ret ?_
    exact N_ret1 rfl (rv_tmp rfl) (fun w hh => ⟨(), rfl, hh.sel [] rfl⟩)

set_option maxHeartbeats 40000000 in
theorem c_spec_l10Is (A : Nat → Prop) (w : World) (hA : ∀ k, A k → k < w.heap.size) (v0_ : Value) (p0 : (List GRewrite)) (hp0 : Rd A w v0_ p0) (r : Bool) (hr : F_spec_l10Is p0 = some r) :
    Con Try.prog 35 [v0_] A w (fun x_ : Unit => .bool r) (fun x_ => []) := by
  refine Con_of (v := fun (r : Bool) (x_ : Unit) => .bool r) (fs := fun r x_ => []) Try.func35 rfl Try.ntmps35 rfl ((SH.start hA).start_rd rfl hp0) rfl ?_ hr
  unfold F_spec_l10Is
  refine J_seq ?_
  refine J_region ?_
  refine JL_q (wants_none rfl) rfl (ex_assign rfl) ?_
  refine JL_nil ?_
  refine N_then ?_
  refine J_seq ?_
  refine J_cut' (S' := Unit) (G' := Unit) (fun _ _ => [(0, v0_)]) (fun _ _ => [.rd v0_ p0]) ?_ (fun s1 g2 => ?_)
  · refine J_seq ?_
    refine J_region ?_
    refine JL_q (wants_none rfl) rfl (ex_move rfl) ?_
    refine JL_q (wants_none rfl) rfl (ex_len_rd 0 Try.underlying28 rfl rfl) ?_
    refine JL_q (wants_none rfl) rfl (ex_lss rfl rfl) ?_
    refine JL_q (wants_none rfl) rfl (ex_move rfl) ?_
    refine JL_cond (fun h3 => ?_) (fun h3 => ?_)
    · refine JL_passed rfl rfl rfl h3 ?_
      refine JL_passed rfl rfl rfl h3 ?_
      refine JL_passed rfl rfl rfl h3 ?_
      refine JL_q (wants_none rfl) rfl (ex_pick_true rfl h3 rfl) ?_
      refine JL_nil ?_
      refine N_then ?_
      refine J_if_true rfl rfl ?_
      refine J_seq ?_
      refine J_region ?_
      refine JL_q (wants_none rfl) rfl (ex_assign rfl) ?_
      refine JL_nil ?_
      refine N_then ?_
      refine J_ret ?_
      refine N_mid_ret ?_
      refine N_then_ret ?_
      exact N_ret1 rfl (rv_tmp rfl) (fun w hh => ⟨(), rfl, hh.sel [] rfl⟩)
    · refine JL_q (wants_some rfl rfl rfl h3) rfl (ex_move rfl) ?_
      refine JL_q (wants_some rfl rfl rfl h3) rfl (ex_len_rd 0 Try.underlying28 rfl rfl) ?_
      refine JL_q (wants_some rfl rfl rfl h3) rfl (ex_gtr rfl rfl) ?_
      refine JL_q (wants_none rfl) rfl (ex_pick_false rfl h3 rfl) ?_
      refine JL_nil ?_
      refine N_then ?_
      refine J_if rfl (fun h4 => ?_) (fun h4 => ?_)
      · refine J_seq ?_
        refine J_region ?_
        refine JL_q (wants_none rfl) rfl (ex_assign rfl) ?_
        refine JL_nil ?_
        refine N_then ?_
        refine J_ret ?_
        refine N_mid_ret ?_
        refine N_then_ret ?_
        exact N_ret1 rfl (rv_tmp rfl) (fun w hh => ⟨(), rfl, hh.sel [] rfl⟩)
      · refine J_skip ?_
        exact N_meet' () ⟨rfl, trivial⟩ [0] rfl rfl
  · refine N_then ?_
    refine J_seq ?_
    refine J_seq ?_
    refine J_region ?_
    refine JL_q (wants_none rfl) rfl (ex_assign rfl) ?_
    refine JL_nil ?_
    refine N_then ?_
    refine J_loop' (S := Int) (G := Unit) (F_spec_l10Is_L1 p0) (fun s5 _ => [(0, v0_), (3, .int .i64 s5)]) (fun s5 _ => [.rd v0_ p0]) 0 () ⟨rfl, rfl, trivial⟩ [0] rfl rfl (fun s5 g6 => ?_) (fun s5 g6 => ?_)
    · unfold F_spec_l10Is_L1
      refine J_seq ?_
      refine J_seq ?_
      refine J_region ?_
      refine JL_q (wants_none rfl) rfl (ex_move rfl) ?_
      refine JL_q (wants_none rfl) rfl (ex_move rfl) ?_
      refine JL_q (wants_none rfl) rfl (ex_len_rd 0 Try.underlying28 rfl rfl) ?_
      refine JL_q (wants_none rfl) rfl (ex_lss rfl rfl) ?_
      refine JL_nil ?_
      refine N_then ?_
      refine J_if rfl (fun h7 => ?_) (fun h7 => ?_)
      · refine J_skip ?_
        refine N_then ?_
        refine J_seq ?_
        refine J_block ?_
        refine J_seq ?_
        refine J_region ?_
        refine JL_q (wants_none rfl) rfl (ex_move rfl) ?_
        refine JL_q (wants_none rfl) rfl (ex_move rfl) ?_
        refine JL_bnd fun y8 hy9 => ?_
        refine JL_st (wants_none rfl) rfl (st_index 0 Try.underlying28 ti_80 rfl rfl rfl hy9) (fun q10 => ?_)
        refine JL_st (wants_none rfl) rfl (st_field_pt 0 (GRewrite.at_From _) fi_80_0 rfl rfl rfl) (fun q11 => ?_)
        refine JL_st (wants_none rfl) rfl (st_load_pt_o 0 (opens_sl _) ti_23 rfl rfl) (fun v12 => ?_)
        refine JL_bnd fun r13 hr14 => ?_
        refine JL_call (wants_none rfl) rfl Try.call36 rfl (Ca_of0 fun w hh => c_spec_l03Is _ w (fun _ hk => hk.elim) _ _ (hh.rd0 0 rfl) _ hr14) (fun _ => ?_)
        refine JL_q (wants_none rfl) rfl (ex_not rfl) ?_
        refine JL_q (wants_none rfl) rfl (ex_move rfl) ?_
        refine JL_cond (fun h15 => ?_) (fun h15 => ?_)
        · refine JL_passed rfl rfl rfl h15 ?_
          refine JL_passed rfl rfl rfl h15 ?_
          refine JL_passed rfl rfl rfl h15 ?_
          refine JL_passed rfl rfl rfl h15 ?_
          refine JL_passed rfl rfl rfl h15 ?_
          refine JL_passed rfl rfl rfl h15 ?_
          refine JL_passed rfl rfl rfl h15 ?_
          refine JL_q (wants_none rfl) rfl (ex_pick_true rfl h15 rfl) ?_
          refine JL_q (wants_none rfl) rfl (ex_move rfl) ?_
          refine JL_passed rfl rfl rfl rfl ?_
          refine JL_passed rfl rfl rfl rfl ?_
          refine JL_passed rfl rfl rfl rfl ?_
          refine JL_passed rfl rfl rfl rfl ?_
          refine JL_passed rfl rfl rfl rfl ?_
          refine JL_passed rfl rfl rfl rfl ?_
          refine JL_passed rfl rfl rfl rfl ?_
          refine JL_q (wants_none rfl) rfl (ex_pick_true rfl rfl rfl) ?_
          refine JL_nil ?_
          refine N_then ?_
          refine J_if_true rfl rfl ?_
          refine J_seq ?_
          refine J_region ?_
          refine JL_q (wants_none rfl) rfl (ex_assign rfl) ?_
          refine JL_nil ?_
          refine N_then ?_
          refine J_ret ?_
          refine N_block_ret ?_
          refine N_then_ret ?_
          refine N_round_ret ?_
          refine N_then_ret ?_
          exact N_ret1 rfl (rv_tmp rfl) (fun w hh => ⟨(), rfl, hh.sel [] rfl⟩)
        · refine JL_q (wants_some rfl rfl rfl h15) rfl (ex_move rfl) ?_
          refine JL_q (wants_some rfl rfl rfl h15) rfl (ex_move rfl) ?_
          refine JL_bnd fun y16 hy17 => ?_
          refine JL_st (wants_some rfl rfl rfl h15) rfl (st_index 3 Try.underlying28 ti_80 rfl rfl rfl hy17) (fun q18 => ?_)
          refine JL_st (wants_some rfl rfl rfl h15) rfl (st_field_pt 0 (GRewrite.at_To _) fi_80_1 rfl rfl rfl) (fun q19 => ?_)
          refine JL_st (wants_some rfl rfl rfl h15) rfl (st_load_pt_o 0 (opens_sl _) ti_23 rfl rfl) (fun v20 => ?_)
          refine JL_bnd fun r21 hr22 => ?_
          refine JL_call (wants_some rfl rfl rfl h15) rfl Try.call36 rfl (Ca_of0 fun w hh => c_spec_l03Is _ w (fun _ hk => hk.elim) _ _ (hh.rd0 0 rfl) _ hr22) (fun _ => ?_)
          refine JL_q (wants_some rfl rfl rfl h15) rfl (ex_not rfl) ?_
          refine JL_q (wants_none rfl) rfl (ex_pick_false rfl h15 rfl) ?_
          refine JL_q (wants_none rfl) rfl (ex_move rfl) ?_
          refine JL_cond (fun h23 => ?_) (fun h23 => ?_)
          · refine JL_passed rfl rfl rfl h23 ?_
            refine JL_passed rfl rfl rfl h23 ?_
            refine JL_passed rfl rfl rfl h23 ?_
            refine JL_passed rfl rfl rfl h23 ?_
            refine JL_passed rfl rfl rfl h23 ?_
            refine JL_passed rfl rfl rfl h23 ?_
            refine JL_passed rfl rfl rfl h23 ?_
            refine JL_q (wants_none rfl) rfl (ex_pick_true rfl h23 rfl) ?_
            refine JL_nil ?_
            refine N_then ?_
            refine J_if_true rfl rfl ?_
            refine J_seq ?_
            refine J_region ?_
            refine JL_q (wants_none rfl) rfl (ex_assign rfl) ?_
            refine JL_nil ?_
            refine N_then ?_
            refine J_ret ?_
            refine N_block_ret ?_
            refine N_then_ret ?_
            refine N_round_ret ?_
            refine N_then_ret ?_
            exact N_ret1 rfl (rv_tmp rfl) (fun w hh => ⟨(), rfl, hh.sel [] rfl⟩)
          · refine JL_q (wants_some rfl rfl rfl h23) rfl (ex_move rfl) ?_
            refine JL_q (wants_some rfl rfl rfl h23) rfl (ex_move rfl) ?_
            refine JL_bnd fun y24 hy25 => ?_
            refine JL_st (wants_some rfl rfl rfl h23) rfl (st_index 6 Try.underlying28 ti_80 rfl rfl rfl hy25) (fun q26 => ?_)
            refine JL_st (wants_some rfl rfl rfl h23) rfl (st_field_pt 0 (GRewrite.at_From _) fi_80_0 rfl rfl rfl) (fun q27 => ?_)
            refine JL_st (wants_some rfl rfl rfl h23) rfl (st_load_pt_o 0 (opens_sl _) ti_23 rfl rfl) (fun v28 => ?_)
            refine JL_q (wants_some rfl rfl rfl h23) rfl (ex_len_rd 0 Try.underlying23 rfl rfl) ?_
            refine JL_q (wants_some rfl rfl rfl h23) rfl (ex_eql rfl rfl) ?_
            refine JL_q (wants_none rfl) rfl (ex_pick_false rfl h23 rfl) ?_
            refine JL_nil ?_
            refine N_then ?_
            refine J_if rfl (fun h29 => ?_) (fun h29 => ?_)
            · refine J_seq ?_
              refine J_region ?_
              refine JL_q (wants_none rfl) rfl (ex_assign rfl) ?_
              refine JL_nil ?_
              refine N_then ?_
              refine J_ret ?_
              refine N_block_ret ?_
              refine N_then_ret ?_
              refine N_round_ret ?_
              refine N_then_ret ?_
              exact N_ret1 rfl (rv_tmp rfl) (fun w hh => ⟨(), rfl, hh.sel [] rfl⟩)
            · refine J_skip ?_
              refine N_block ?_
              refine N_then ?_
              refine J_region ?_
              refine JL_q (wants_none rfl) rfl (ex_move rfl) ?_
              refine JL_q (wants_none rfl) rfl (ex_add rfl rfl) ?_
              refine JL_q (wants_none rfl) rfl (ex_assign rfl) ?_
              refine JL_nil ?_
              exact N_next' () ⟨rfl, rfl, trivial⟩ [9] rfl rfl
      · refine J_exit ?_
        refine N_then_exit ?_
        exact N_break' () ⟨rfl, rfl, trivial⟩ [0] rfl rfl
    · refine N_then ?_
      refine J_seq ?_
      refine J_region ?_
      refine JL_q (wants_none rfl) rfl (ex_assign rfl) ?_
      refine JL_nil ?_
      refine N_then ?_
      refine J_ret ?_
      exact N_ret1 rfl (rv_tmp rfl) (fun w hh => ⟨(), rfl, hh.sel [] rfl⟩)

set_option maxHeartbeats 40000000 in
theorem c_spec_l05Budget (A : Nat → Prop) (w : World) (hA : ∀ k, A k → k < w.heap.size) (p0 : Int) (r : Bool) (hr : F_spec_l05Budget p0 = some r) :
    Con Try.prog 37 [.int .i64 p0] A w (fun x_ : Unit => .bool r) (fun x_ => []) := by
  refine Con_of (v := fun (r : Bool) (x_ : Unit) => .bool r) (fs := fun r x_ => []) Try.func37 rfl Try.ntmps37 rfl (SH.start hA) rfl ?_ hr
  unfold F_spec_l05Budget
  refine J_seq ?_
  refine J_region ?_
  refine JL_q (wants_none rfl) rfl (ex_assign rfl) ?_
  refine JL_nil ?_
  refine N_then ?_
  refine J_seq ?_
  refine J_region ?_
  refine JL_q (wants_none rfl) rfl (ex_move rfl) ?_
  refine JL_bnd fun r1 hr2 => ?_
  refine JL_call (wants_none rfl) rfl Try.call81 rfl (Ca_of0 fun w hh => c_spec_l00In _ w (fun _ hk => hk.elim) _ _ _ _ hr2) (fun _ => ?_)
  refine JL_q (wants_none rfl) rfl (ex_assign rfl) ?_
  refine JL_nil ?_
  refine N_then ?_
  refine J_ret ?_
  exact N_ret1 rfl (rv_tmp rfl) (fun w hh => ⟨(), rfl, hh.sel [] rfl⟩)

set_option maxHeartbeats 40000000 in
theorem c_spec_l00Own (A : Nat → Prop) (w : World) (hA : ∀ k, A k → k < w.heap.size) (v0_ : Value) (p0 : (List Int)) (hp0 : Rd A w v0_ p0) (r : (List Int)) (hr : F_spec_l00Own p0 = some r) :
    Con Try.prog 82 [v0_] A w (fun x_ : Value => x_) (fun x_ => [.ow 2 x_ r]) := by
  refine Con_of (v := fun (r : (List Int)) (x_ : Value) => x_) (fs := fun r x_ => [.ow 2 x_ r]) Try.func82 rfl Try.ntmps82 rfl ((SH.start hA).start_rd rfl hp0) rfl ?_ hr
  unfold F_spec_l00Own
  refine J_seq ?_
  refine J_region ?_
  refine JL_q (wants_none rfl) rfl (ex_assign rfl) ?_
  refine JL_nil ?_
  refine N_then ?_
  refine J_seq ?_
  refine J_region ?_
  refine JL_st (wants_none rfl) rfl (st_buildSlice (vs := []) ([] : List Int) Try.underlying23 ti_2 zi_2 rfl rfl rfl (fun w hh => trivial)) (fun b1 => ?_)
  refine JL_q (wants_none rfl) rfl (ex_move rfl) ?_
  refine JL_bnd fun z2 hz3 => ?_
  refine JL_st (wants_none rfl) rfl (st_append 0 Try.underlying23 ti_2 zi_2 rfl bi_2 rfl rfl rfl rfl (fun w hh => hh.src_rd 1 rfl) hz3) (fun v4 => ?_)
  refine JL_q (wants_none rfl) rfl (ex_assign rfl) ?_
  refine JL_nil ?_
  refine N_then ?_
  refine J_ret ?_
  exact N_ret1 rfl (rv_tmp rfl) (fun w hh => ⟨v4, rfl, hh.sel [0] rfl⟩)

set_option maxHeartbeats 40000000 in
theorem c_spec_l10Key (A : Nat → Prop) (w : World) (hA : ∀ k, A k → k < w.heap.size) (v0_ : Value) (p0 : (List Int)) (hp0 : Rd A w v0_ p0) (r : ByteArray) (hr : F_spec_l10Key p0 = some r) :
    Con Try.prog 83 [v0_] A w (fun x_ : Unit => .string r) (fun x_ => []) := by
  refine Con_of (v := fun (r : ByteArray) (x_ : Unit) => .string r) (fs := fun r x_ => []) Try.func83 rfl Try.ntmps83 rfl ((SH.start hA).start_rd rfl hp0) rfl ?_ hr
  unfold F_spec_l10Key
  refine J_seq ?_
  refine J_region ?_
  refine JL_q (wants_none rfl) rfl (ex_assign rfl) ?_
  refine JL_nil ?_
  refine N_then ?_
  refine J_seq ?_
  refine J_region ?_
  refine JL_q (wants_none rfl) rfl (ex_move rfl) ?_
  refine JL_q (wants_none rfl) rfl (ex_len_rd 0 Try.underlying23 rfl rfl) ?_
  refine JL_bnd fun z1 hz2 => ?_
  refine JL_st (wants_none rfl) rfl (st_make (α := (Ik .u8)) Try.underlying38 ti_5 zi_5 bi_5 rfl (fun _ _ => zero_ik) rfl hz2) (fun b3 => ?_)
  refine JL_q (wants_none rfl) rfl (ex_assign rfl) ?_
  refine JL_nil ?_
  refine N_then ?_
  refine J_seq ?_
  refine J_seq ?_
  refine J_region ?_
  refine JL_q (wants_none rfl) rfl (ex_assign rfl) ?_
  refine JL_nil ?_
  refine N_then ?_
  refine J_loop' (S := (List (Ik .u8)) × Int) (G := Unit) (F_spec_l10Key_L1 p0) (fun s4 _ => [(0, v0_), (3, (.slice (some ⟨b3, 0, none⟩) z1.length z1.length)), (4, .int .i64 s4.2)]) (fun s4 _ => [.rd v0_ p0, .ow 5 (.slice (some ⟨b3, 0, none⟩) z1.length z1.length) s4.1]) (z1, 0) () ⟨rfl, rfl, rfl, trivial⟩ [1, 0] rfl rfl (fun s4 g5 => ?_) (fun s4 g5 => ?_)
  · unfold F_spec_l10Key_L1
    refine J_seq ?_
    refine J_seq ?_
    refine J_region ?_
    refine JL_q (wants_none rfl) rfl (ex_move rfl) ?_
    refine JL_q (wants_none rfl) rfl (ex_move rfl) ?_
    refine JL_q (wants_none rfl) rfl (ex_len_rd 0 Try.underlying23 rfl rfl) ?_
    refine JL_q (wants_none rfl) rfl (ex_lss rfl rfl) ?_
    refine JL_nil ?_
    refine N_then ?_
    refine J_if rfl (fun h6 => ?_) (fun h6 => ?_)
    · refine J_skip ?_
      refine N_then ?_
      refine J_seq ?_
      refine J_block ?_
      refine J_region ?_
      refine JL_q (wants_none rfl) rfl (ex_move rfl) ?_
      refine JL_q (wants_none rfl) rfl (ex_move rfl) ?_
      refine JL_q (wants_none rfl) rfl (ex_move rfl) ?_
      refine JL_q (wants_none rfl) rfl (ex_move rfl) ?_
      refine JL_bnd fun y7 hy8 => ?_
      refine JL_st (wants_none rfl) rfl (st_index 0 Try.underlying23 ti_2 rfl rfl rfl hy8) (fun q9 => ?_)
      refine JL_st (wants_none rfl) rfl (st_load_pt_o 0 (opens_int _) ti_2 rfl rfl) (fun _ => ?_)
      refine JL_q (wants_none rfl) rfl (ex_conv_ik Try.underlying2 Try.underlying5 rfl) ?_
      refine JL_bnd fun y11 hy12 => ?_
      refine JL_q (wants_none rfl) rfl (ex_index_ow 2 Try.underlying38 ti_5 rfl rfl rfl hy12) ?_
      refine JL_sk (wants_none rfl) (sk_store_ow 2 ti_5 rfl rfl rfl hy12 (fun w hh => (Rd.mk_ik _ _ _))) ?_
      refine JL_nil ?_
      refine N_block ?_
      refine N_then ?_
      refine J_region ?_
      refine JL_q (wants_none rfl) rfl (ex_move rfl) ?_
      refine JL_q (wants_none rfl) rfl (ex_add rfl rfl) ?_
      refine JL_q (wants_none rfl) rfl (ex_assign rfl) ?_
      refine JL_nil ?_
      exact N_next' () ⟨rfl, rfl, rfl, trivial⟩ [1, 2] rfl rfl
    · refine J_exit ?_
      refine N_then_exit ?_
      exact N_break' () ⟨rfl, rfl, rfl, trivial⟩ [0, 1] rfl rfl
  · refine N_then ?_
    refine J_seq ?_
    refine J_region ?_
    refine JL_q (wants_none rfl) rfl (ex_move rfl) ?_
    refine JL_q (wants_none rfl) rfl (ex_str Try.underlying38 Try.underlying5 Try.underlying9 rfl (fun w hh => (hh.ow0 1 rfl))) ?_
    refine JL_q (wants_none rfl) rfl (ex_assign rfl) ?_
    refine JL_nil ?_
    refine N_then ?_
    refine J_ret ?_
    exact N_ret1 rfl (rv_tmp rfl) (fun w hh => ⟨(), rfl, hh.sel [] rfl⟩)

set_option maxHeartbeats 40000000 in
theorem c_spec_l00Same (A : Nat → Prop) (w : World) (hA : ∀ k, A k → k < w.heap.size) (v0_ : Value) (p0 : (List Int)) (hp0 : Rd A w v0_ p0) (v1_ : Value) (p1 : (List Int)) (hp1 : Rd A w v1_ p1) (r : Bool) (hr : F_spec_l00Same p0 p1 = some r) :
    Con Try.prog 141 [v0_, v1_] A w (fun x_ : Unit => .bool r) (fun x_ => []) := by
  refine Con_of (v := fun (r : Bool) (x_ : Unit) => .bool r) (fs := fun r x_ => []) Try.func141 rfl Try.ntmps141 rfl (((SH.start hA).start_rd rfl hp0).start_rd rfl hp1) rfl ?_ hr
  unfold F_spec_l00Same
  refine J_seq ?_
  refine J_region ?_
  refine JL_q (wants_none rfl) rfl (ex_assign rfl) ?_
  refine JL_nil ?_
  refine N_then ?_
  refine J_seq ?_
  refine J_seq ?_
  refine J_region ?_
  refine JL_q (wants_none rfl) rfl (ex_move rfl) ?_
  refine JL_q (wants_none rfl) rfl (ex_len_rd 1 Try.underlying23 rfl rfl) ?_
  refine JL_q (wants_none rfl) rfl (ex_move rfl) ?_
  refine JL_q (wants_none rfl) rfl (ex_len_rd 0 Try.underlying23 rfl rfl) ?_
  refine JL_q (wants_none rfl) rfl (ex_neq rfl rfl) ?_
  refine JL_nil ?_
  refine N_then ?_
  refine J_if rfl (fun h1 => ?_) (fun h1 => ?_)
  · refine J_seq ?_
    refine J_region ?_
    refine JL_q (wants_none rfl) rfl (ex_assign rfl) ?_
    refine JL_nil ?_
    refine N_then ?_
    refine J_ret ?_
    refine N_then_ret ?_
    exact N_ret1 rfl (rv_tmp rfl) (fun w hh => ⟨(), rfl, hh.sel [] rfl⟩)
  · refine J_skip ?_
    refine N_then ?_
    refine J_seq ?_
    refine J_seq ?_
    refine J_region ?_
    refine JL_q (wants_none rfl) rfl (ex_assign rfl) ?_
    refine JL_nil ?_
    refine N_then ?_
    refine J_loop' (S := Int) (G := Unit) (F_spec_l00Same_L1 p0 p1) (fun s2 _ => [(0, v0_), (1, v1_), (5, .int .i64 s2)]) (fun s2 _ => [.rd v0_ p0, .rd v1_ p1]) 0 () ⟨rfl, rfl, rfl, trivial⟩ [1, 0] rfl rfl (fun s2 g3 => ?_) (fun s2 g3 => ?_)
    · unfold F_spec_l00Same_L1
      refine J_seq ?_
      refine J_seq ?_
      refine J_region ?_
      refine JL_q (wants_none rfl) rfl (ex_move rfl) ?_
      refine JL_q (wants_none rfl) rfl (ex_move rfl) ?_
      refine JL_q (wants_none rfl) rfl (ex_len_rd 0 Try.underlying23 rfl rfl) ?_
      refine JL_q (wants_none rfl) rfl (ex_lss rfl rfl) ?_
      refine JL_nil ?_
      refine N_then ?_
      refine J_if rfl (fun h4 => ?_) (fun h4 => ?_)
      · refine J_skip ?_
        refine N_then ?_
        refine J_seq ?_
        refine J_block ?_
        refine J_seq ?_
        refine J_draw [] (by kernel_rfl) ?_
        refine JP_take (i := 0) [0, 1] [] rfl (by kernel_rfl) (by kernel_rfl) (by kernel_rfl) rfl rfl (wants_none rfl) rfl (ex_move rfl) ?_
        refine JP_take (i := 1) [0, 1] [] rfl (by kernel_rfl) (by kernel_rfl) (by kernel_rfl) rfl rfl (wants_none rfl) rfl (ex_move rfl) ?_
        refine JP_bnd fun y5 hy6 => ?_
        refine JP_sq (i := 2) [] rfl (by kernel_rfl) (by kernel_rfl) (by kernel_rfl) rfl (wants_none rfl) rfl (sq_index 0 Try.underlying23 ti_2 rfl rfl rfl hy6) (fun q7 => ?_)
        refine JP_sq (i := 3) [] rfl (by kernel_rfl) (by kernel_rfl) (by kernel_rfl) rfl (wants_none rfl) rfl (sq_load_pt_o 0 (opens_int _) ti_2 rfl rfl) (fun _ => ?_)
        refine JP_take (i := 4) [0, 1, 2] [] rfl (by kernel_rfl) (by kernel_rfl) (by kernel_rfl) rfl rfl (wants_none rfl) rfl (ex_move rfl) ?_
        refine JP_take (i := 5) [0, 1, 2] [] rfl (by kernel_rfl) (by kernel_rfl) (by kernel_rfl) rfl rfl (wants_none rfl) rfl (ex_move rfl) ?_
        refine JP_bnd fun y9 hy10 => ?_
        refine JP_sq (i := 6) [] rfl (by kernel_rfl) (by kernel_rfl) (by kernel_rfl) rfl (wants_none rfl) rfl (sq_index 2 Try.underlying23 ti_2 rfl rfl rfl hy10) (fun q11 => ?_)
        refine JP_sq (i := 7) [] rfl (by kernel_rfl) (by kernel_rfl) (by kernel_rfl) rfl (wants_none rfl) rfl (sq_load_pt_o 0 (opens_int _) ti_2 rfl rfl) (fun _ => ?_)
        refine JP_take (i := 8) [0, 1, 2, 3] [] rfl (by kernel_rfl) (by kernel_rfl) (by kernel_rfl) rfl rfl (wants_none rfl) rfl (ex_neq rfl rfl) ?_
        refine JP_go [] [] rfl rfl rfl (fun _ _ _ => ?_)
        refine JD_done (by kernel_rfl) ?_
        refine N_then ?_
        refine J_if rfl (fun h13 => ?_) (fun h13 => ?_)
        · refine J_seq ?_
          refine J_region ?_
          refine JL_q (wants_none rfl) rfl (ex_assign rfl) ?_
          refine JL_nil ?_
          refine N_then ?_
          refine J_ret ?_
          refine N_block_ret ?_
          refine N_then_ret ?_
          refine N_round_ret ?_
          refine N_then_ret ?_
          exact N_ret1 rfl (rv_tmp rfl) (fun w hh => ⟨(), rfl, hh.sel [] rfl⟩)
        · refine J_skip ?_
          refine N_block ?_
          refine N_then ?_
          refine J_region ?_
          refine JL_q (wants_none rfl) rfl (ex_move rfl) ?_
          refine JL_q (wants_none rfl) rfl (ex_add rfl rfl) ?_
          refine JL_q (wants_none rfl) rfl (ex_assign rfl) ?_
          refine JL_nil ?_
          exact N_next' () ⟨rfl, rfl, rfl, trivial⟩ [2, 3] rfl rfl
      · refine J_exit ?_
        refine N_then_exit ?_
        exact N_break' () ⟨rfl, rfl, rfl, trivial⟩ [0, 1] rfl rfl
    · refine N_then ?_
      refine J_seq ?_
      refine J_region ?_
      refine JL_q (wants_none rfl) rfl (ex_assign rfl) ?_
      refine JL_nil ?_
      refine N_then ?_
      refine J_ret ?_
      exact N_ret1 rfl (rv_tmp rfl) (fun w hh => ⟨(), rfl, hh.sel [] rfl⟩)

set_option maxHeartbeats 40000000 in
theorem c_spec_l03At (A : Nat → Prop) (w : World) (hA : ∀ k, A k → k < w.heap.size) (v0_ : Value) (p0 : (List Int)) (hp0 : Rd A w v0_ p0) (p1 : Int) (v2_ : Value) (p2 : (List Int)) (hp2 : Rd A w v2_ p2) (r : Bool) (hr : F_spec_l03At p0 p1 p2 = some r) :
    Con Try.prog 131 [v0_, .int .i64 p1, v2_] A w (fun x_ : Unit => .bool r) (fun x_ => []) := by
  refine Con_of (v := fun (r : Bool) (x_ : Unit) => .bool r) (fs := fun r x_ => []) Try.func131 rfl Try.ntmps131 rfl (((SH.start hA).start_rd rfl hp0).start_rd rfl hp2) rfl ?_ hr
  unfold F_spec_l03At
  refine J_seq ?_
  refine J_region ?_
  refine JL_q (wants_none rfl) rfl (ex_assign rfl) ?_
  refine JL_nil ?_
  refine N_then ?_
  refine J_seq ?_
  refine J_region ?_
  refine JL_q (wants_none rfl) rfl (ex_move rfl) ?_
  refine JL_q (wants_none rfl) rfl (ex_move rfl) ?_
  refine JL_q (wants_none rfl) rfl (ex_len_rd 0 Try.underlying23 rfl rfl) ?_
  refine JL_q (wants_none rfl) rfl (ex_add rfl rfl) ?_
  refine JL_q (wants_none rfl) rfl (ex_move rfl) ?_
  refine JL_q (wants_none rfl) rfl (ex_len_rd 1 Try.underlying23 rfl rfl) ?_
  refine JL_q (wants_none rfl) rfl (ex_leq rfl rfl) ?_
  refine JL_q (wants_none rfl) rfl (ex_move rfl) ?_
  refine JL_cond (fun h1 => ?_) (fun h1 => ?_)
  · refine JL_q (wants_some rfl rfl rfl h1) rfl (ex_move rfl) ?_
    refine JL_q (wants_some rfl rfl rfl h1) rfl (ex_move rfl) ?_
    refine JL_q (wants_some rfl rfl rfl h1) rfl (ex_move rfl) ?_
    refine JL_q (wants_some rfl rfl rfl h1) rfl (ex_move rfl) ?_
    refine JL_q (wants_some rfl rfl rfl h1) rfl (ex_len_rd 0 Try.underlying23 rfl rfl) ?_
    refine JL_q (wants_some rfl rfl rfl h1) rfl (ex_add rfl rfl) ?_
    refine JL_bnd fun z2 hz3 => ?_
    refine JL_st (wants_some rfl rfl rfl h1) rfl (st_slice 1 Try.underlying23 ti_2 rfl rfl rfl rfl hz3) (fun v4 => ?_)
    refine JL_q (wants_some rfl rfl rfl h1) rfl (ex_move rfl) ?_
    refine JL_bnd fun r5 hr6 => ?_
    refine JL_call (wants_some rfl rfl rfl h1) rfl Try.call141 rfl (Ca_of0 fun w hh => c_spec_l00Same _ w (fun _ hk => hk.elim) _ _ (hh.rd0 0 rfl) _ _ (hh.rd0 1 rfl) _ hr6) (fun _ => ?_)
    refine JL_q (wants_none rfl) rfl (ex_pick_true rfl h1 rfl) ?_
    refine JL_q (wants_none rfl) rfl (ex_assign rfl) ?_
    refine JL_nil ?_
    refine N_then ?_
    refine J_ret ?_
    exact N_ret1 rfl (rv_tmp rfl) (fun w hh => ⟨(), rfl, hh.sel [] rfl⟩)
  · refine JL_passed rfl rfl rfl h1 ?_
    refine JL_passed rfl rfl rfl h1 ?_
    refine JL_passed rfl rfl rfl h1 ?_
    refine JL_passed rfl rfl rfl h1 ?_
    refine JL_passed rfl rfl rfl h1 ?_
    refine JL_passed rfl rfl rfl h1 ?_
    refine JL_passed rfl rfl rfl h1 ?_
    refine JL_passed rfl rfl rfl h1 ?_
    refine JL_passed rfl rfl rfl h1 ?_
    refine JL_q (wants_none rfl) rfl (ex_pick_false rfl h1 rfl) ?_
    refine JL_q (wants_none rfl) rfl (ex_assign rfl) ?_
    refine JL_nil ?_
    refine N_then ?_
    refine J_ret ?_
    exact N_ret1 rfl (rv_tmp rfl) (fun w hh => ⟨(), rfl, hh.sel [] rfl⟩)

set_option maxHeartbeats 40000000 in
theorem c_spec_l03Put (A : Nat → Prop) (w : World) (hA : ∀ k, A k → k < w.heap.size) (v0_ : Value) (p0 : (List Int)) (hp0 : Rd A w v0_ p0) (p1 : Int) (p2 : Int) (v3_ : Value) (p3 : (List Int)) (hp3 : Rd A w v3_ p3) (r : (List Int)) (hr : F_spec_l03Put p0 p1 p2 p3 = some r) :
    Con Try.prog 113 [v0_, .int .i64 p1, .int .i64 p2, v3_] A w (fun x_ : Value => x_) (fun x_ => [.ow 2 x_ r]) := by
  refine Con_of (v := fun (r : (List Int)) (x_ : Value) => x_) (fs := fun r x_ => [.ow 2 x_ r]) Try.func113 rfl Try.ntmps113 rfl (((SH.start hA).start_rd rfl hp0).start_rd rfl hp3) rfl ?_ hr
  unfold F_spec_l03Put
  refine J_seq ?_
  refine J_region ?_
  refine JL_q (wants_none rfl) rfl (ex_assign rfl) ?_
  refine JL_nil ?_
  refine N_then ?_
  refine J_seq ?_
  refine J_region ?_
  refine JL_q (wants_none rfl) rfl (ex_move rfl) ?_
  refine JL_q (wants_none rfl) rfl (ex_move rfl) ?_
  refine JL_bnd fun z1 hz2 => ?_
  refine JL_st (wants_none rfl) rfl (st_slice 1 Try.underlying23 ti_2 rfl rfl rfl rfl hz2) (fun v3 => ?_)
  refine JL_bnd fun r4 hr5 => ?_
  refine JL_call (wants_none rfl) rfl Try.call82 rfl (Ca_self (fun _ => rfl) fun w hh => c_spec_l00Own _ w (fun _ hk => hk.elim) _ _ (hh.rd0 0 rfl) _ hr5) (fun x6 => ?_)
  refine JL_q (wants_none rfl) rfl (ex_assign rfl) ?_
  refine JL_nil ?_
  refine N_then ?_
  refine J_seq ?_
  refine J_region ?_
  refine JL_q (wants_none rfl) rfl (ex_move rfl) ?_
  refine JL_q (wants_none rfl) rfl (ex_move rfl) ?_
  refine JL_bnd fun z7 hz8 => ?_
  refine JL_st (wants_none rfl) rfl (st_append 0 Try.underlying23 ti_2 zi_2 rfl bi_2 rfl rfl rfl rfl (fun w hh => hh.src_rd 2 rfl) hz8) (fun v9 => ?_)
  refine JL_q (wants_none rfl) rfl (ex_assign rfl) ?_
  refine JL_nil ?_
  refine N_then ?_
  refine J_seq ?_
  refine J_region ?_
  refine JL_q (wants_none rfl) rfl (ex_move rfl) ?_
  refine JL_q (wants_none rfl) rfl (ex_move rfl) ?_
  refine JL_q (wants_none rfl) rfl (ex_move rfl) ?_
  refine JL_q (wants_none rfl) rfl (ex_move rfl) ?_
  refine JL_q (wants_none rfl) rfl (ex_add rfl rfl) ?_
  refine JL_bnd fun z10 hz11 => ?_
  refine JL_st (wants_none rfl) rfl (st_slice 3 Try.underlying23 ti_2 rfl rfl rfl rfl hz11) (fun v12 => ?_)
  refine JL_bnd fun z13 hz14 => ?_
  refine JL_st (wants_none rfl) rfl (st_append 1 Try.underlying23 ti_2 zi_2 rfl bi_2 rfl rfl rfl rfl (fun w hh => hh.src_rd 0 rfl) hz14) (fun v15 => ?_)
  refine JL_q (wants_none rfl) rfl (ex_assign rfl) ?_
  refine JL_nil ?_
  refine N_then ?_
  refine J_ret ?_
  exact N_ret1 rfl (rv_tmp rfl) (fun w hh => ⟨v15, rfl, hh.sel [1] rfl⟩)

set_option maxHeartbeats 40000000 in
theorem c_spec_l10Apply (A : Nat → Prop) (w : World) (hA : ∀ k, A k → k < w.heap.size) (v0_ : Value) (p0 : (List GRewrite)) (hp0 : Rd A w v0_ p0) (v1_ : Value) (p1 : (List Int)) (hp1 : Rd A w v1_ p1) (p2 : Int) (p3 : Int) (r : (List Int) × Int) (hr : F_spec_l10Apply p0 p1 p2 p3 = some r) :
    Con Try.prog 130 [v0_, v1_, .int .i64 p2, .int .i64 p3] A w (fun x_ : Value => .tuple #[x_, .int .i64 r.2]) (fun x_ => [.ow 2 x_ r.1]) := by
  refine Con_of (v := fun (r : (List Int) × Int) (x_ : Value) => .tuple #[x_, .int .i64 r.2]) (fs := fun r x_ => [.ow 2 x_ r.1]) Try.func130 rfl Try.ntmps130 rfl (((SH.start hA).start_rd rfl hp0).start_rd rfl hp1) rfl ?_ hr
  unfold F_spec_l10Apply
  refine J_seq ?_
  refine J_region ?_
  refine JL_q (wants_none rfl) rfl (ex_assign rfl) ?_
  refine JL_q (wants_none rfl) rfl (ex_assign rfl) ?_
  refine JL_nil ?_
  refine N_then ?_
  refine J_seq ?_
  refine J_region ?_
  refine JL_q (wants_none rfl) rfl (ex_move rfl) ?_
  refine JL_q (wants_none rfl) rfl (ex_move rfl) ?_
  refine JL_bnd fun y1 hy2 => ?_
  refine JL_st (wants_none rfl) rfl (st_index 1 Try.underlying28 ti_80 rfl rfl rfl hy2) (fun q3 => ?_)
  refine JL_q (wants_none rfl) rfl (ex_assign rfl) ?_
  refine JL_nil ?_
  refine N_then ?_
  refine J_seq ?_
  refine J_seq ?_
  refine J_region ?_
  refine JL_q (wants_none rfl) rfl (ex_move rfl) ?_
  refine JL_q (wants_none rfl) rfl (ex_move rfl) ?_
  refine JL_q (wants_none rfl) rfl (ex_move rfl) ?_
  refine JL_q (wants_none rfl) rfl (ex_nilCheck_pt 0 rfl rfl) ?_
  refine JL_st (wants_none rfl) rfl (st_field_pt 0 (GRewrite.at_From _) fi_80_0 rfl rfl rfl) (fun q4 => ?_)
  refine JL_st (wants_none rfl) rfl (st_load_pt_o 0 (opens_sl _) ti_23 rfl rfl) (fun v5 => ?_)
  refine JL_bnd fun r6 hr7 => ?_
  refine JL_call (wants_none rfl) rfl Try.call131 rfl (Ca_of0 fun w hh => c_spec_l03At _ w (fun _ hk => hk.elim) _ _ (hh.rd0 3 rfl) _ _ _ (hh.rd0 0 rfl) _ hr7) (fun _ => ?_)
  refine JL_q (wants_none rfl) rfl (ex_not rfl) ?_
  refine JL_nil ?_
  refine N_then ?_
  refine J_if rfl (fun h8 => ?_) (fun h8 => ?_)
  · refine J_seq ?_
    refine J_region ?_
    refine JL_q (wants_none rfl) rfl (ex_assign rfl) ?_
    refine JL_q (wants_none rfl) rfl (ex_assign rfl) ?_
    refine JL_nil ?_
    refine N_then ?_
    refine J_ret ?_
    refine N_then_ret ?_
    refine N_ctx (fun w hh => SH.ow_nil (α := Int) 2 hh) ?_
    exact N_ret2 rfl (rv_tmp rfl) (rv_tmp rfl) (fun w hh => ⟨(.slice none 0 0 : Value), rfl, hh.sel [0] rfl⟩)
  · refine J_skip ?_
    refine N_then ?_
    refine J_seq ?_
    refine J_seq ?_
    refine J_draw [] (by kernel_rfl) ?_
    refine JP_take (i := 0) [0, 1, 2, 3, 4] [] rfl (by kernel_rfl) (by kernel_rfl) (by kernel_rfl) rfl rfl (wants_none rfl) rfl (ex_move rfl) ?_
    refine JP_take (i := 1) [0, 1, 2, 3, 4] [] rfl (by kernel_rfl) (by kernel_rfl) (by kernel_rfl) rfl rfl (wants_none rfl) rfl (ex_len_rd 3 Try.underlying23 rfl rfl) ?_
    refine JP_take (i := 2) [0, 1, 2, 3, 4] [] rfl (by kernel_rfl) (by kernel_rfl) (by kernel_rfl) rfl rfl (wants_none rfl) rfl (ex_move rfl) ?_
    refine JP_take (i := 3) [0, 1, 2, 3, 4] [] rfl (by kernel_rfl) (by kernel_rfl) (by kernel_rfl) rfl rfl (wants_none rfl) rfl (ex_nilCheck_pt 2 rfl rfl) ?_
    refine JP_sq (i := 4) [] rfl (by kernel_rfl) (by kernel_rfl) (by kernel_rfl) rfl (wants_none rfl) rfl (sq_field_pt 2 (GRewrite.at_From _) fi_80_0 rfl rfl rfl) (fun q9 => ?_)
    refine JP_sq (i := 5) [] rfl (by kernel_rfl) (by kernel_rfl) (by kernel_rfl) rfl (wants_none rfl) rfl (sq_load_pt_o 0 (opens_sl _) ti_23 rfl rfl) (fun v10 => ?_)
    refine JP_take (i := 6) [0, 1, 2, 3, 4, 5, 6] [] rfl (by kernel_rfl) (by kernel_rfl) (by kernel_rfl) rfl rfl (wants_none rfl) rfl (ex_len_rd 0 Try.underlying23 rfl rfl) ?_
    refine JP_take (i := 7) [0, 1, 2, 3, 4, 5, 6] [] rfl (by kernel_rfl) (by kernel_rfl) (by kernel_rfl) rfl rfl (wants_none rfl) rfl (ex_sub rfl rfl) ?_
    refine JP_take (i := 8) [0, 1, 2, 3, 4, 5, 6] [] rfl (by kernel_rfl) (by kernel_rfl) (by kernel_rfl) rfl rfl (wants_none rfl) rfl (ex_move rfl) ?_
    refine JP_take (i := 9) [0, 1, 2, 3, 4, 5, 6] [] rfl (by kernel_rfl) (by kernel_rfl) (by kernel_rfl) rfl rfl (wants_none rfl) rfl (ex_nilCheck_pt 4 rfl rfl) ?_
    refine JP_sq (i := 10) [] rfl (by kernel_rfl) (by kernel_rfl) (by kernel_rfl) rfl (wants_none rfl) rfl (sq_field_pt 4 (GRewrite.at_To _) fi_80_1 rfl rfl rfl) (fun q11 => ?_)
    refine JP_sq (i := 11) [] rfl (by kernel_rfl) (by kernel_rfl) (by kernel_rfl) rfl (wants_none rfl) rfl (sq_load_pt_o 0 (opens_sl _) ti_23 rfl rfl) (fun v12 => ?_)
    refine JP_take (i := 12) [0, 1, 2, 3, 4, 5, 6, 7, 8] [] rfl (by kernel_rfl) (by kernel_rfl) (by kernel_rfl) rfl rfl (wants_none rfl) rfl (ex_len_rd 0 Try.underlying23 rfl rfl) ?_
    refine JP_take (i := 13) [0, 1, 2, 3, 4, 5, 6, 7, 8] [] rfl (by kernel_rfl) (by kernel_rfl) (by kernel_rfl) rfl rfl (wants_none rfl) rfl (ex_add rfl rfl) ?_
    refine JP_take (i := 14) [0, 1, 2, 3, 4, 5, 6, 7, 8] [] rfl (by kernel_rfl) (by kernel_rfl) (by kernel_rfl) rfl rfl (wants_none rfl) rfl (ex_gtr rfl rfl) ?_
    refine JP_go [] [] rfl rfl rfl (fun _ _ _ => ?_)
    refine JD_done (by kernel_rfl) ?_
    refine N_then ?_
    refine J_if rfl (fun h13 => ?_) (fun h13 => ?_)
    · refine J_seq ?_
      refine J_region ?_
      refine JL_q (wants_none rfl) rfl (ex_assign rfl) ?_
      refine JL_q (wants_none rfl) rfl (ex_assign rfl) ?_
      refine JL_nil ?_
      refine N_then ?_
      refine J_ret ?_
      refine N_then_ret ?_
      refine N_ctx (fun w hh => SH.ow_nil (α := Int) 2 hh) ?_
      exact N_ret2 rfl (rv_tmp rfl) (rv_tmp rfl) (fun w hh => ⟨(.slice none 0 0 : Value), rfl, hh.sel [0] rfl⟩)
    · refine J_skip ?_
      refine N_then ?_
      refine J_seq ?_
      refine J_draw [] (by kernel_rfl) ?_
      refine JP_take (i := 0) [0, 1, 2, 3, 4, 5, 6, 7, 8] [] rfl (by kernel_rfl) (by kernel_rfl) (by kernel_rfl) rfl rfl (wants_none rfl) rfl (ex_move rfl) ?_
      refine JP_take (i := 1) [0, 1, 2, 3, 4, 5, 6, 7, 8] [] rfl (by kernel_rfl) (by kernel_rfl) (by kernel_rfl) rfl rfl (wants_none rfl) rfl (ex_move rfl) ?_
      refine JP_take (i := 2) [0, 1, 2, 3, 4, 5, 6, 7, 8] [] rfl (by kernel_rfl) (by kernel_rfl) (by kernel_rfl) rfl rfl (wants_none rfl) rfl (ex_move rfl) ?_
      refine JP_take (i := 3) [0, 1, 2, 3, 4, 5, 6, 7, 8] [] rfl (by kernel_rfl) (by kernel_rfl) (by kernel_rfl) rfl rfl (wants_none rfl) rfl (ex_nilCheck_pt 6 rfl rfl) ?_
      refine JP_sq (i := 4) [] rfl (by kernel_rfl) (by kernel_rfl) (by kernel_rfl) rfl (wants_none rfl) rfl (sq_field_pt 6 (GRewrite.at_From _) fi_80_0 rfl rfl rfl) (fun q14 => ?_)
      refine JP_sq (i := 5) [] rfl (by kernel_rfl) (by kernel_rfl) (by kernel_rfl) rfl (wants_none rfl) rfl (sq_load_pt_o 0 (opens_sl _) ti_23 rfl rfl) (fun v15 => ?_)
      refine JP_take (i := 6) [0, 1, 2, 3, 4, 5, 6, 7, 8, 9, 10] [] rfl (by kernel_rfl) (by kernel_rfl) (by kernel_rfl) rfl rfl (wants_none rfl) rfl (ex_len_rd 0 Try.underlying23 rfl rfl) ?_
      refine JP_take (i := 7) [0, 1, 2, 3, 4, 5, 6, 7, 8, 9, 10] [] rfl (by kernel_rfl) (by kernel_rfl) (by kernel_rfl) rfl rfl (wants_none rfl) rfl (ex_move rfl) ?_
      refine JP_take (i := 8) [0, 1, 2, 3, 4, 5, 6, 7, 8, 9, 10] [] rfl (by kernel_rfl) (by kernel_rfl) (by kernel_rfl) rfl rfl (wants_none rfl) rfl (ex_nilCheck_pt 8 rfl rfl) ?_
      refine JP_sq (i := 9) [] rfl (by kernel_rfl) (by kernel_rfl) (by kernel_rfl) rfl (wants_none rfl) rfl (sq_field_pt 8 (GRewrite.at_To _) fi_80_1 rfl rfl rfl) (fun q16 => ?_)
      refine JP_sq (i := 10) [] rfl (by kernel_rfl) (by kernel_rfl) (by kernel_rfl) rfl (wants_none rfl) rfl (sq_load_pt_o 0 (opens_sl _) ti_23 rfl rfl) (fun v17 => ?_)
      refine JP_go [0, 1, 2, 3, 4, 5, 6, 7, 8, 9, 10, 11, 12] [] rfl rfl rfl (fun w19 h1_20 hp18 => ?_)
      refine JD_bnd fun r21 hr22 => ?_
      refine JD_one (i := 11) (by kernel_rfl) ?_
      refine JO_call rfl (wants_none rfl) rfl Try.call113 rfl (Ca_self (fun _ => rfl) fun w hh => c_spec_l03Put _ w (fun _ hk => hk.elim) _ _ (hh.rd0 11 rfl) _ _ _ _ (hh.rd0 0 rfl) _ hr22) (fun x23 => ?_)
      refine JD_take (i := 12) hp18 rfl (by kernel_rfl) (by kernel_rfl) (by kernel_rfl) (wants_none rfl) rfl (ex_assign rfl) ?_
      refine JD_take (i := 13) hp18 rfl (by kernel_rfl) (by kernel_rfl) (by kernel_rfl) (wants_none rfl) rfl (ex_assign rfl) ?_
      refine JD_done (by kernel_rfl) ?_
      refine N_then ?_
      refine J_ret ?_
      exact N_ret2 rfl (rv_tmp rfl) (rv_tmp rfl) (fun w hh => ⟨x23, rfl, hh.sel [0] rfl⟩)

set_option maxHeartbeats 40000000 in
theorem c_spec_l10Next (A : Nat → Prop) (w : World) (hA : ∀ k, A k → k < w.heap.size) (v0_ : Value) (p0 : (List GRewrite)) (hp0 : Rd A w v0_ p0) (v1_ : Value) (p1 : (List Int)) (hp1 : Rd A w v1_ p1) (r : (List (List Int)) × (List (List Int)) × Bool) (hr : F_spec_l10Next p0 p1 = some r) :
    Con Try.prog 84 [v0_, v1_] A w (fun x_ : Value × List Nat × Value × List Nat => .tuple #[x_.1, x_.2.2.1, .bool r.2.2]) (fun x_ => [.od 23 x_.1 r.1 x_.2.1, .od 23 x_.2.2.1 r.2.1 x_.2.2.2]) := by
  refine Con_of (v := fun (r : (List (List Int)) × (List (List Int)) × Bool) (x_ : Value × List Nat × Value × List Nat) => .tuple #[x_.1, x_.2.2.1, .bool r.2.2]) (fs := fun r x_ => [.od 23 x_.1 r.1 x_.2.1, .od 23 x_.2.2.1 r.2.1 x_.2.2.2]) Try.func84 rfl Try.ntmps84 rfl (((SH.start hA).start_rd rfl hp0).start_rd rfl hp1) rfl ?_ hr
  unfold F_spec_l10Next
  refine J_seq ?_
  refine J_region ?_
  refine JL_q (wants_none rfl) rfl (ex_assign rfl) ?_
  refine JL_q (wants_none rfl) rfl (ex_assign rfl) ?_
  refine JL_q (wants_none rfl) rfl (ex_assign rfl) ?_
  refine JL_nil ?_
  refine N_then ?_
  refine J_seq ?_
  refine J_region ?_
  refine JL_st (wants_none rfl) rfl (st_buildSlice_od (vs := []) (B := ([] : List Nat)) ([] : List (List Int)) [] Try.underlying25 ti_23 zi_23 rfl rfl rfl rfl rfl (fun w hh => dwv_nil)) (fun b1 => ?_)
  refine JL_q (wants_none rfl) rfl (ex_assign rfl) ?_
  refine JL_nil ?_
  refine N_then ?_
  refine J_seq ?_
  refine J_region ?_
  refine JL_st (wants_none rfl) rfl (st_buildSlice_od (vs := []) (B := ([] : List Nat)) ([] : List (List Int)) [] Try.underlying25 ti_23 zi_23 rfl rfl rfl rfl rfl (fun w hh => dwv_nil)) (fun b2 => ?_)
  refine JL_q (wants_none rfl) rfl (ex_assign rfl) ?_
  refine JL_nil ?_
  refine N_then ?_
  refine J_seq ?_
  refine J_region ?_
  refine JL_q (wants_none rfl) rfl (ex_assign rfl) ?_
  refine JL_nil ?_
  refine N_then ?_
  refine J_seq ?_
  refine J_region ?_
  refine JL_st (wants_none rfl) rfl (st_buildSlice (vs := []) ([] : List ByteArray) Try.underlying140 ti_9 zi_9 rfl rfl rfl (fun w hh => trivial)) (fun b3 => ?_)
  refine JL_q (wants_none rfl) rfl (ex_assign rfl) ?_
  refine JL_nil ?_
  refine N_then ?_
  refine J_seq ?_
  refine J_seq ?_
  refine J_region ?_
  refine JL_q (wants_none rfl) rfl (ex_assign rfl) ?_
  refine JL_nil ?_
  refine N_then ?_
  refine J_loop' (S := (List (List Int)) × (List (List Int)) × Bool × (List ByteArray) × Int) (G := Value × List Nat × Value × List Nat × Value) (F_spec_l10Next_L1 p0 p1) (fun s4 g5 => [(0, v0_), (1, v1_), (7, g5.1), (8, g5.2.2.1), (9, .bool s4.2.2.1), (10, g5.2.2.2.2), (11, .int .i64 s4.2.2.2.2)]) (fun s4 g5 => [.rd v0_ p0, .rd v1_ p1, .od 23 g5.1 s4.1 g5.2.1, .od 23 g5.2.2.1 s4.2.1 g5.2.2.2.1, .ow 9 g5.2.2.2.2 s4.2.2.2.1]) (([] : List (List Int)), ([] : List (List Int)), true, ([] : List ByteArray), 0) ((.slice (some ⟨b1, 0, none⟩) 0 0), ([] : List Nat), (.slice (some ⟨b2, 0, none⟩) 0 0), ([] : List Nat), (.slice (some ⟨b3, 0, none⟩) 0 0)) ⟨rfl, rfl, rfl, rfl, rfl, rfl, rfl, trivial⟩ [4, 3, 2, 1, 0] rfl rfl (fun s4 g5 => ?_) (fun s4 g5 => ?_)
  · obtain ⟨g5_0, g5_1, g5_2, g5_3, g5_4⟩ := g5
    unfold F_spec_l10Next_L1
    refine J_seq ?_
    refine J_seq ?_
    refine J_region ?_
    refine JL_q (wants_none rfl) rfl (ex_move rfl) ?_
    refine JL_q (wants_none rfl) rfl (ex_move rfl) ?_
    refine JL_q (wants_none rfl) rfl (ex_len_rd 0 Try.underlying28 rfl rfl) ?_
    refine JL_q (wants_none rfl) rfl (ex_lss rfl rfl) ?_
    refine JL_nil ?_
    refine N_then ?_
    refine J_if rfl (fun h6 => ?_) (fun h6 => ?_)
    · refine J_skip ?_
      refine N_then ?_
      refine J_seq ?_
      refine J_block ?_
      refine J_seq ?_
      refine J_region ?_
      refine JL_q (wants_none rfl) rfl (ex_assign rfl) ?_
      refine JL_nil ?_
      refine N_then ?_
      refine J_loop' (S := (List (List Int)) × (List (List Int)) × Bool × (List ByteArray) × Int) (G := Value × List Nat × Value × List Nat × Value) (F_spec_l10Next_L2 p0 p1 s4) (fun s7 g8 => [(0, v0_), (1, v1_), (7, g8.1), (8, g8.2.2.1), (9, .bool s7.2.2.1), (10, g8.2.2.2.2), (11, .int .i64 s4.2.2.2.2), (12, .int .i64 s7.2.2.2.2)]) (fun s7 g8 => [.rd v0_ p0, .rd v1_ p1, .od 23 g8.1 s7.1 g8.2.1, .od 23 g8.2.2.1 s7.2.1 g8.2.2.2.1, .ow 9 g8.2.2.2.2 s7.2.2.2.1]) (s4.1, s4.2.1, s4.2.2.1, s4.2.2.2.1, 0) (g5_0, g5_1, g5_2, g5_3, g5_4) ⟨rfl, rfl, rfl, rfl, rfl, rfl, rfl, rfl, trivial⟩ [0, 1, 2, 3, 4] rfl rfl (fun s7 g8 => ?_) (fun s7 g8 => ?_)
      · obtain ⟨g8_0, g8_1, g8_2, g8_3, g8_4⟩ := g8
        unfold F_spec_l10Next_L2
        refine J_seq ?_
        refine J_seq ?_
        refine J_region ?_
        refine JL_q (wants_none rfl) rfl (ex_move rfl) ?_
        refine JL_q (wants_none rfl) rfl (ex_move rfl) ?_
        refine JL_q (wants_none rfl) rfl (ex_len_rd 1 Try.underlying23 rfl rfl) ?_
        refine JL_q (wants_none rfl) rfl (ex_leq rfl rfl) ?_
        refine JL_nil ?_
        refine N_then ?_
        refine J_if rfl (fun h9 => ?_) (fun h9 => ?_)
        · refine J_skip ?_
          refine N_then ?_
          refine J_seq ?_
          refine J_block ?_
          refine J_seq ?_
          refine J_region ?_
          refine JL_q (wants_none rfl) rfl (ex_move rfl) ?_
          refine JL_q (wants_none rfl) rfl (ex_move rfl) ?_
          refine JL_q (wants_none rfl) rfl (ex_move rfl) ?_
          refine JL_q (wants_none rfl) rfl (ex_move rfl) ?_
          refine JL_bnd fun r10 hr11 => ?_
          refine JL_call (wants_none rfl) rfl Try.call130 rfl (Ca_self (fun _ => rfl) fun w hh => c_spec_l10Apply _ w (fun _ hk => hk.elim) _ _ (hh.rd0 0 rfl) _ _ (hh.rd0 1 rfl) _ _ _ hr11) (fun x12 => ?_)
          refine JL_q (wants_none rfl) rfl (ex_move rfl) ?_
          refine JL_q (wants_none rfl) rfl (ex_extract rfl rfl) ?_
          refine JL_q (wants_none rfl) rfl (ex_extract rfl rfl) ?_
          refine JL_q (wants_none rfl) rfl (ex_assign rfl) ?_
          refine JL_q (wants_none rfl) rfl (ex_assign rfl) ?_
          refine JL_nil ?_
          refine N_then ?_
          refine J_seq ?_
          refine J_cut' (S' := Bool) (G' := Unit) (fun s13 _ => [(0, v0_), (1, v1_), (7, g8_0), (8, g8_2), (9, .bool s13), (10, g8_4), (11, .int .i64 s4.2.2.2.2), (12, .int .i64 s7.2.2.2.2), (13, x12), (14, .int .i64 r10.2)]) (fun s13 _ => [.rd v0_ p0, .rd v1_ p1, .od 23 g8_0 s7.1 g8_1, .od 23 g8_2 s7.2.1 g8_3, .ow 9 g8_4 s7.2.2.2.1, .ow 2 x12 r10.1]) ?_ (fun s13 g14 => ?_)
          · refine J_seq ?_
            refine J_region ?_
            refine JL_q (wants_none rfl) rfl (ex_move rfl) ?_
            refine JL_q (wants_none rfl) rfl (ex_eql rfl rfl) ?_
            refine JL_nil ?_
            refine N_then ?_
            refine J_if rfl (fun h15 => ?_) (fun h15 => ?_)
            · refine J_region ?_
              refine JL_q (wants_none rfl) rfl (ex_assign rfl) ?_
              refine JL_nil ?_
              exact N_meet' () ⟨rfl, rfl, rfl, rfl, rfl, rfl, rfl, rfl, rfl, rfl, trivial⟩ [1, 2, 3, 4, 5, 0] rfl rfl
            · refine J_skip ?_
              exact N_meet' () ⟨rfl, rfl, rfl, rfl, rfl, rfl, rfl, rfl, rfl, rfl, trivial⟩ [1, 2, 3, 4, 5, 0] rfl rfl
          · refine N_then ?_
            refine J_seq ?_
            refine J_seq ?_
            refine J_region ?_
            refine JL_q (wants_none rfl) rfl (ex_move rfl) ?_
            refine JL_q (wants_none rfl) rfl (ex_neq rfl rfl) ?_
            refine JL_nil ?_
            refine N_then ?_
            refine J_if rfl (fun h16 => ?_) (fun h16 => ?_)
            · refine J_exit ?_
              refine N_then_exit ?_
              refine N_block_exit ?_
              refine N_then ?_
              refine J_region ?_
              refine JL_q (wants_none rfl) rfl (ex_move rfl) ?_
              refine JL_q (wants_none rfl) rfl (ex_add rfl rfl) ?_
              refine JL_q (wants_none rfl) rfl (ex_assign rfl) ?_
              refine JL_nil ?_
              exact N_next' (g8_0, g8_1, g8_2, g8_3, g8_4) ⟨rfl, rfl, rfl, rfl, rfl, rfl, rfl, rfl, trivial⟩ [0, 1, 2, 3, 4] rfl rfl
            · refine J_skip ?_
              refine N_then ?_
              refine J_seq ?_
              refine J_region ?_
              refine JL_q (wants_none rfl) rfl (ex_move rfl) ?_
              refine JL_q (wants_none rfl) rfl (ex_move rfl) ?_
              refine JL_bnd fun r17 hr18 => ?_
              refine JL_call (wants_none rfl) rfl Try.call83 rfl (Ca_of0 fun w hh => c_spec_l10Key _ w (fun _ hk => hk.elim) _ _ (hh.ow0 5 rfl) _ hr18) (fun _ => ?_)
              refine JL_inline (wants_none rfl) rfl Try.call85 rfl Try.func85 rfl Try.ntmps85 rfl rfl (fun K_ hK19 => ?_)
              refine J_seq ?_
              refine J_region ?_
              refine JL_q (wants_none rfl) rfl (ex_assign rfl) ?_
              refine JL_q (wants_none rfl) rfl (ex_assign rfl) ?_
              refine JL_nil ?_
              refine N_then ?_
              refine J_seq ?_
              refine J_region ?_
              refine JL_q (wants_none rfl) rfl (ex_assign rfl) ?_
              refine JL_nil ?_
              refine N_then ?_
              refine J_seq ?_
              refine J_region ?_
              refine JL_q (wants_none rfl) rfl (ex_move rfl) ?_
              refine JL_q (wants_none rfl) rfl (ex_len_ow 4 Try.underlying140 rfl rfl) ?_
              refine JL_q (wants_none rfl) rfl (ex_assign rfl) ?_
              refine JL_nil ?_
              refine N_then ?_
              refine J_seq ?_
              refine J_loop' (S := Int × Int) (G := Unit) (F_spec_l10Next_L3 s7 r17) (fun s20 _ => [(0, g8_4), (1, .string r17), (6, .int .i64 s20.1), (7, .int .i64 s20.2)]) (fun s20 _ => [.ow 9 g8_4 s7.2.2.2.1, .rd v0_ p0, .rd v1_ p1, .od 23 g8_0 s7.1 g8_1, .od 23 g8_2 s7.2.1 g8_3, .ow 2 x12 r10.1]) (0, (s7.2.2.2.1.length : Int)) () ⟨rfl, rfl, rfl, rfl, trivial⟩ [4, 0, 1, 2, 3, 5] rfl rfl (fun s20 g21 => ?_) (fun s20 g21 => ?_)
              · unfold F_spec_l10Next_L3
                refine J_seq ?_
                refine J_seq ?_
                refine J_region ?_
                refine JL_q (wants_none rfl) rfl (ex_move rfl) ?_
                refine JL_q (wants_none rfl) rfl (ex_move rfl) ?_
                refine JL_q (wants_none rfl) rfl (ex_lss rfl rfl) ?_
                refine JL_nil ?_
                refine N_then ?_
                refine J_if rfl (fun h22 => ?_) (fun h22 => ?_)
                · refine J_skip ?_
                  refine N_then ?_
                  refine J_block ?_
                  refine J_seq ?_
                  refine J_region ?_
                  refine JL_q (wants_none rfl) rfl (ex_move rfl) ?_
                  refine JL_q (wants_none rfl) rfl (ex_move rfl) ?_
                  refine JL_q (wants_none rfl) rfl (ex_add rfl rfl) ?_
                  refine JL_q (wants_none rfl) rfl (ex_quo rfl rfl (by decide)) ?_
                  refine JL_q (wants_none rfl) rfl (ex_assign rfl) ?_
                  refine JL_nil ?_
                  refine N_then ?_
                  refine J_seq ?_
                  refine J_region ?_
                  refine JL_q (wants_none rfl) rfl (ex_move rfl) ?_
                  refine JL_q (wants_none rfl) rfl (ex_move rfl) ?_
                  refine JL_bnd fun y23 hy24 => ?_
                  refine JL_ow_open (v := g8_4) 0 rfl hy24 ?_; rintro b25 cap26 rfl
                  refine JL_q (wants_none rfl) rfl (ex_index_ow 0 Try.underlying140 ti_9 rfl rfl rfl hy24) ?_
                  refine JL_st (wants_none rfl) rfl (st_load_ow_o 0 (opens_str _) ti_9 rfl rfl hy24) (fun _ => ?_)
                  refine JL_q (wants_none rfl) rfl (ex_move rfl) ?_
                  refine JL_q (wants_none rfl) rfl (ex_lss_str rfl rfl) ?_
                  refine JL_nil ?_
                  refine N_then ?_
                  refine J_if rfl (fun h28 => ?_) (fun h28 => ?_)
                  · refine J_region ?_
                    refine JL_q (wants_none rfl) rfl (ex_move rfl) ?_
                    refine JL_q (wants_none rfl) rfl (ex_add rfl rfl) ?_
                    refine JL_q (wants_none rfl) rfl (ex_assign rfl) ?_
                    refine JL_nil ?_
                    refine N_block ?_
                    exact N_next' () ⟨rfl, rfl, rfl, rfl, trivial⟩ [0, 1, 2, 3, 4, 5] rfl rfl
                  · refine J_region ?_
                    refine JL_q (wants_none rfl) rfl (ex_move rfl) ?_
                    refine JL_q (wants_none rfl) rfl (ex_assign rfl) ?_
                    refine JL_nil ?_
                    refine N_block ?_
                    exact N_next' () ⟨rfl, rfl, rfl, rfl, trivial⟩ [0, 1, 2, 3, 4, 5] rfl rfl
                · refine J_exit ?_
                  refine N_then_exit ?_
                  exact N_break' () ⟨rfl, rfl, rfl, rfl, trivial⟩ [0, 1, 2, 3, 4, 5] rfl rfl
              · refine N_then ?_
                refine J_seq ?_
                refine J_cut' (S' := Unit) (G' := Unit) (fun _ _ => [(0, g8_4), (1, .string r17), (6, .int .i64 s20.1)]) (fun _ _ => [.ow 9 g8_4 s7.2.2.2.1, .rd v0_ p0, .rd v1_ p1, .od 23 g8_0 s7.1 g8_1, .od 23 g8_2 s7.2.1 g8_3, .ow 2 x12 r10.1]) ?_ (fun s29 g30 => ?_)
                · refine J_seq ?_
                  refine J_region ?_
                  refine JL_q (wants_none rfl) rfl (ex_move rfl) ?_
                  refine JL_q (wants_none rfl) rfl (ex_move rfl) ?_
                  refine JL_q (wants_none rfl) rfl (ex_len_ow 0 Try.underlying140 rfl rfl) ?_
                  refine JL_q (wants_none rfl) rfl (ex_lss rfl rfl) ?_
                  refine JL_q (wants_none rfl) rfl (ex_move rfl) ?_
                  refine JL_cond (fun h31 => ?_) (fun h31 => ?_)
                  · refine JL_q (wants_some rfl rfl rfl h31) rfl (ex_move rfl) ?_
                    refine JL_q (wants_some rfl rfl rfl h31) rfl (ex_move rfl) ?_
                    refine JL_bnd fun y32 hy33 => ?_
                    refine JL_ow_open (v := g8_4) 0 rfl hy33 ?_; rintro b34 cap35 rfl
                    refine JL_q (wants_some rfl rfl rfl h31) rfl (ex_index_ow 0 Try.underlying140 ti_9 rfl rfl rfl hy33) ?_
                    refine JL_st (wants_some rfl rfl rfl h31) rfl (st_load_ow_o 0 (opens_str _) ti_9 rfl rfl hy33) (fun _ => ?_)
                    refine JL_q (wants_some rfl rfl rfl h31) rfl (ex_move rfl) ?_
                    refine JL_q (wants_some rfl rfl rfl h31) rfl (ex_eql_str rfl rfl) ?_
                    refine JL_q (wants_none rfl) rfl (ex_pick_true rfl h31 rfl) ?_
                    refine JL_nil ?_
                    refine N_then ?_
                    refine J_if rfl (fun h37 => ?_) (fun h37 => ?_)
                    · refine J_seq ?_
                      refine J_region ?_
                      refine JL_q (wants_none rfl) rfl (ex_move rfl) ?_
                      refine JL_q (wants_none rfl) rfl (ex_assign rfl) ?_
                      refine JL_q (wants_none rfl) rfl (ex_assign rfl) ?_
                      refine JL_nil ?_
                      refine N_then ?_
                      refine J_ret ?_
                      refine N_mid_reti ?_
                      refine N_then_ret ?_
                      refine N_inl2 hK19 rfl (rv_tmp rfl) (rv_tmp rfl) ?_
                      refine JL_q (wants_none rfl) rfl (ex_move rfl) ?_
                      refine JL_q (wants_none rfl) rfl (ex_extract rfl rfl) ?_
                      refine JL_q (wants_none rfl) rfl (ex_extract rfl rfl) ?_
                      refine JL_q (wants_none rfl) rfl (ex_assign rfl) ?_
                      refine JL_q (wants_none rfl) rfl (ex_assign rfl) ?_
                      refine JL_nil ?_
                      refine N_then ?_
                      refine J_seq ?_
                      refine J_region ?_
                      refine JL_q (wants_none rfl) rfl (ex_move rfl) ?_
                      refine JL_q (wants_none rfl) rfl (ex_assign rfl) ?_
                      refine JL_nil ?_
                      refine N_then ?_
                      refine J_seq ?_
                      refine J_region ?_
                      refine JL_q (wants_none rfl) rfl (ex_move rfl) ?_
                      refine JL_nil ?_
                      refine N_then ?_
                      refine J_if_false rfl rfl ?_
                      refine J_skip ?_
                      refine N_block ?_
                      refine N_then ?_
                      refine J_region ?_
                      refine JL_q (wants_none rfl) rfl (ex_move rfl) ?_
                      refine JL_q (wants_none rfl) rfl (ex_add rfl rfl) ?_
                      refine JL_q (wants_none rfl) rfl (ex_assign rfl) ?_
                      refine JL_nil ?_
                      exact N_next' (g8_0, g8_1, g8_2, g8_3, (.slice (some ⟨b34, 0, none⟩) s7.2.2.2.1.length cap35)) ⟨rfl, rfl, rfl, rfl, rfl, rfl, rfl, rfl, trivial⟩ [1, 2, 3, 4, 0] rfl rfl
                    · refine J_skip ?_
                      exact N_meet' () ⟨rfl, rfl, rfl, trivial⟩ [0, 1, 2, 3, 4, 5] rfl rfl
                  · refine JL_passed rfl rfl rfl h31 ?_
                    refine JL_passed rfl rfl rfl h31 ?_
                    refine JL_passed rfl rfl rfl h31 ?_
                    refine JL_passed rfl rfl rfl h31 ?_
                    refine JL_passed rfl rfl rfl h31 ?_
                    refine JL_passed rfl rfl rfl h31 ?_
                    refine JL_q (wants_none rfl) rfl (ex_pick_false rfl h31 rfl) ?_
                    refine JL_nil ?_
                    refine N_then ?_
                    refine J_if_false rfl rfl ?_
                    refine J_skip ?_
                    exact N_meet' () ⟨rfl, rfl, rfl, trivial⟩ [0, 1, 2, 3, 4, 5] rfl rfl
                · refine N_then ?_
                  refine J_seq ?_
                  refine J_region ?_
                  refine JL_q (wants_none rfl) rfl (ex_move rfl) ?_
                  refine JL_st (wants_none rfl) rfl (st_buildSlice (vs := [.string (⟨#[]⟩ : ByteArray)]) ([(⟨#[]⟩ : ByteArray)] : List ByteArray) Try.underlying140 ti_9 zi_9 rfl rfl rfl (fun w hh => ⟨(Rd.mk_str _ _ _), trivial⟩)) (fun b38 => ?_)
                  refine JL_bnd fun z39 hz40 => ?_
                  refine JL_st (wants_none rfl) rfl (st_append 1 Try.underlying140 ti_9 zi_9 rfl bi_9 rfl rfl rfl rfl (fun w hh => hh.src_ow 0 rfl) hz40) (fun v41 => ?_)
                  refine JL_q (wants_none rfl) rfl (ex_assign rfl) ?_
                  refine JL_nil ?_
                  refine N_then ?_
                  refine J_seq ?_
                  refine J_draw [1] (by kernel_rfl) ?_
                  refine JP_take (i := 0) [0, 2, 3, 4, 5, 6] [1] rfl (by kernel_rfl) (by kernel_rfl) (by kernel_rfl) rfl rfl (wants_none rfl) rfl (ex_move rfl) ?_
                  refine JP_take (i := 1) [0, 2, 3, 4, 5, 6] [1] rfl (by kernel_rfl) (by kernel_rfl) (by kernel_rfl) rfl rfl (wants_none rfl) rfl (ex_move rfl) ?_
                  refine JP_take (i := 2) [0, 2, 3, 4, 5, 6] [1] rfl (by kernel_rfl) (by kernel_rfl) (by kernel_rfl) rfl rfl (wants_none rfl) rfl (ex_add rfl rfl) ?_
                  refine JP_take (i := 4) [0, 2, 3, 4, 5, 6] [1] rfl (by kernel_rfl) (by kernel_rfl) (by kernel_rfl) rfl rfl (wants_none rfl) rfl (ex_move rfl) ?_
                  refine JP_take (i := 5) [0, 2, 3, 4, 5, 6] [1] rfl (by kernel_rfl) (by kernel_rfl) (by kernel_rfl) rfl rfl (wants_none rfl) rfl (ex_move rfl) ?_
                  refine JP_go [0, 2, 3, 4, 5, 6] [1] rfl rfl rfl (fun w43 h1_44 hp42 => ?_)
                  refine JD_bnd fun z45 hz46 => ?_
                  refine JD_bnd fun z47 hz48 => ?_
                  refine JD_two (i := 3) (j := 6) (by kernel_rfl) ?_ ?_
                  · refine JO_q rfl (wants_none rfl) rfl (ex_slice_ow 1 Try.underlying140 ti_9 rfl rfl rfl rfl hz46) ?_
                    refine JD_one (i := 6) (by kernel_rfl) ?_
                    refine JO_q rfl (wants_none rfl) rfl (ex_slice_ow 1 Try.underlying140 ti_9 rfl rfl rfl rfl hz48) ?_
                    refine JD_one (i := 7) (by kernel_rfl) ?_
                    refine JO_st rfl (wants_none rfl) rfl (st_copy_at 1 rfl Try.underlying140 ti_9 rfl rfl rfl hz46 (fun w hh => hh.src_own 1 rfl hz48)) (sub_ow 0 rfl) (fun _ => ?_)
                    refine JD_done (by kernel_rfl) ?_
                    refine N_then ?_
                    refine J_seq ?_
                    refine J_region ?_
                    refine JL_q (wants_none rfl) rfl (ex_move rfl) ?_
                    refine JL_q (wants_none rfl) rfl (ex_move rfl) ?_
                    refine JL_q (wants_none rfl) rfl (ex_move rfl) ?_
                    refine JL_bnd fun y49 hy50 => ?_
                    refine JL_ow_open (v := v41) 1 rfl hy50 ?_; rintro b51 cap52 rfl
                    refine JL_q (wants_none rfl) rfl (ex_index_ow 1 Try.underlying140 ti_9 rfl rfl rfl hy50) ?_
                    refine JL_sk (wants_none rfl) (sk_store_ow 1 ti_9 rfl rfl rfl hy50 (fun w hh => (Rd.mk_str _ _ _))) ?_
                    refine JL_nil ?_
                    refine N_then ?_
                    refine J_seq ?_
                    refine J_region ?_
                    refine JL_q (wants_none rfl) rfl (ex_move rfl) ?_
                    refine JL_q (wants_none rfl) rfl (ex_assign rfl) ?_
                    refine JL_q (wants_none rfl) rfl (ex_assign rfl) ?_
                    refine JL_nil ?_
                    refine N_then ?_
                    refine J_ret ?_
                    refine N_inl2 hK19 rfl (rv_tmp rfl) (rv_tmp rfl) ?_
                    refine JL_q (wants_none rfl) rfl (ex_move rfl) ?_
                    refine JL_q (wants_none rfl) rfl (ex_extract rfl rfl) ?_
                    refine JL_q (wants_none rfl) rfl (ex_extract rfl rfl) ?_
                    refine JL_q (wants_none rfl) rfl (ex_assign rfl) ?_
                    refine JL_q (wants_none rfl) rfl (ex_assign rfl) ?_
                    refine JL_nil ?_
                    refine N_then ?_
                    refine J_seq ?_
                    refine J_region ?_
                    refine JL_q (wants_none rfl) rfl (ex_move rfl) ?_
                    refine JL_q (wants_none rfl) rfl (ex_assign rfl) ?_
                    refine JL_nil ?_
                    refine N_then ?_
                    refine J_seq ?_
                    refine J_region ?_
                    refine JL_q (wants_none rfl) rfl (ex_move rfl) ?_
                    refine JL_nil ?_
                    refine N_then ?_
                    refine J_if_true rfl rfl ?_
                    refine J_seq ?_
                    refine J_region ?_
                    refine JL_q (wants_none rfl) rfl (ex_move rfl) ?_
                    refine JL_q (wants_none rfl) rfl (ex_move rfl) ?_
                    refine JL_ctx (fun w hh => hh.tokf 6 rfl rfl) ?_
                    refine JL_st (wants_none rfl) rfl (st_buildSlice_od (vs := [x12]) (B := (((x12 : Value).ownBlock.toList ++ []) ++ [])) ([r10.1] : List (List Int)) [0] Try.underlying25 ti_23 zi_23 rfl rfl rfl rfl rfl (fun w hh => (dwv_cons (hh.dw 0 rfl) dwv_nil))) (fun b53 => ?_)
                    refine JL_bnd fun z54 hz55 => ?_
                    refine JL_st (wants_none rfl) rfl (st_append_od 6 0 Try.underlying25 ti_23 zi_23 rfl bi_23 rfl rfl rfl rfl rfl rfl hz55) (fun v56 => ?_)
                    refine JL_q (wants_none rfl) rfl (ex_assign rfl) ?_
                    refine JL_nil ?_
                    refine N_then ?_
                    refine J_region ?_
                    refine JL_q (wants_none rfl) rfl (ex_move rfl) ?_
                    refine JL_q (wants_none rfl) rfl (ex_move rfl) ?_
                    refine JL_q (wants_none rfl) rfl (ex_move rfl) ?_
                    refine JL_st (wants_none rfl) rfl (st_buildSlice (vs := [.int .i64 s4.2.2.2.2, .int .i64 s7.2.2.2.2]) ([s4.2.2.2.2, s7.2.2.2.2] : List Int) Try.underlying23 ti_2 zi_2 rfl rfl rfl (fun w hh => ⟨(Rd.mk_int _ _ _), (Rd.mk_int _ _ _), trivial⟩)) (fun b57 => ?_)
                    refine JL_ctx (fun w hh => hh.tokf 0 rfl rfl) ?_
                    refine JL_st (wants_none rfl) rfl (st_buildSlice_od (vs := [(.slice (some ⟨b57, 0, none⟩) 2 2)]) (B := ((((.slice (some ⟨b57, 0, none⟩) 2 2) : Value).ownBlock.toList ++ []) ++ [])) ([([s4.2.2.2.2, s7.2.2.2.2] : List Int)] : List (List Int)) [0] Try.underlying25 ti_23 zi_23 rfl rfl rfl rfl rfl (fun w hh => (dwv_cons (hh.dw 0 rfl) dwv_nil))) (fun b58 => ?_)
                    refine JL_bnd fun z59 hz60 => ?_
                    refine JL_st (wants_none rfl) rfl (st_append_od 10 0 Try.underlying25 ti_23 zi_23 rfl bi_23 rfl rfl rfl rfl rfl rfl hz60) (fun v61 => ?_)
                    refine JL_q (wants_none rfl) rfl (ex_assign rfl) ?_
                    refine JL_nil ?_
                    refine N_block ?_
                    refine N_then ?_
                    refine J_region ?_
                    refine JL_q (wants_none rfl) rfl (ex_move rfl) ?_
                    refine JL_q (wants_none rfl) rfl (ex_add rfl rfl) ?_
                    refine JL_q (wants_none rfl) rfl (ex_assign rfl) ?_
                    refine JL_nil ?_
                    exact N_next' (v56, (g8_1 ++ (((x12 : Value).ownBlock.toList ++ []) ++ [])), v61, (g8_3 ++ ((((.slice (some ⟨b57, 0, none⟩) 2 2) : Value).ownBlock.toList ++ []) ++ [])), (.slice (some ⟨b51, 0, none⟩) (cpyAt z39 (w64 (s20.1 + 1)) (z39.length : Int) z47).length cap52)) ⟨rfl, rfl, rfl, rfl, rfl, rfl, rfl, rfl, trivial⟩ [7, 8, 9, 10, 6] rfl rfl
                  · refine JO_q rfl (wants_none rfl) rfl (ex_slice_ow 1 Try.underlying140 ti_9 rfl rfl rfl rfl hz48) ?_
                    refine JD_one (i := 3) (by kernel_rfl) ?_
                    refine JO_q rfl (wants_none rfl) rfl (ex_slice_ow 1 Try.underlying140 ti_9 rfl rfl rfl rfl hz46) ?_
                    refine JD_one (i := 7) (by kernel_rfl) ?_
                    refine JO_st rfl (wants_none rfl) rfl (st_copy_at 1 rfl Try.underlying140 ti_9 rfl rfl rfl hz46 (fun w hh => hh.src_own 1 rfl hz48)) (sub_ow 0 rfl) (fun _ => ?_)
                    refine JD_done (by kernel_rfl) ?_
                    refine N_then ?_
                    refine J_seq ?_
                    refine J_region ?_
                    refine JL_q (wants_none rfl) rfl (ex_move rfl) ?_
                    refine JL_q (wants_none rfl) rfl (ex_move rfl) ?_
                    refine JL_q (wants_none rfl) rfl (ex_move rfl) ?_
                    refine JL_bnd fun y62 hy63 => ?_
                    refine JL_ow_open (v := v41) 1 rfl hy63 ?_; rintro b64 cap65 rfl
                    refine JL_q (wants_none rfl) rfl (ex_index_ow 1 Try.underlying140 ti_9 rfl rfl rfl hy63) ?_
                    refine JL_sk (wants_none rfl) (sk_store_ow 1 ti_9 rfl rfl rfl hy63 (fun w hh => (Rd.mk_str _ _ _))) ?_
                    refine JL_nil ?_
                    refine N_then ?_
                    refine J_seq ?_
                    refine J_region ?_
                    refine JL_q (wants_none rfl) rfl (ex_move rfl) ?_
                    refine JL_q (wants_none rfl) rfl (ex_assign rfl) ?_
                    refine JL_q (wants_none rfl) rfl (ex_assign rfl) ?_
                    refine JL_nil ?_
                    refine N_then ?_
                    refine J_ret ?_
                    refine N_inl2 hK19 rfl (rv_tmp rfl) (rv_tmp rfl) ?_
                    refine JL_q (wants_none rfl) rfl (ex_move rfl) ?_
                    refine JL_q (wants_none rfl) rfl (ex_extract rfl rfl) ?_
                    refine JL_q (wants_none rfl) rfl (ex_extract rfl rfl) ?_
                    refine JL_q (wants_none rfl) rfl (ex_assign rfl) ?_
                    refine JL_q (wants_none rfl) rfl (ex_assign rfl) ?_
                    refine JL_nil ?_
                    refine N_then ?_
                    refine J_seq ?_
                    refine J_region ?_
                    refine JL_q (wants_none rfl) rfl (ex_move rfl) ?_
                    refine JL_q (wants_none rfl) rfl (ex_assign rfl) ?_
                    refine JL_nil ?_
                    refine N_then ?_
                    refine J_seq ?_
                    refine J_region ?_
                    refine JL_q (wants_none rfl) rfl (ex_move rfl) ?_
                    refine JL_nil ?_
                    refine N_then ?_
                    refine J_if_true rfl rfl ?_
                    refine J_seq ?_
                    refine J_region ?_
                    refine JL_q (wants_none rfl) rfl (ex_move rfl) ?_
                    refine JL_q (wants_none rfl) rfl (ex_move rfl) ?_
                    refine JL_ctx (fun w hh => hh.tokf 6 rfl rfl) ?_
                    refine JL_st (wants_none rfl) rfl (st_buildSlice_od (vs := [x12]) (B := (((x12 : Value).ownBlock.toList ++ []) ++ [])) ([r10.1] : List (List Int)) [0] Try.underlying25 ti_23 zi_23 rfl rfl rfl rfl rfl (fun w hh => (dwv_cons (hh.dw 0 rfl) dwv_nil))) (fun b66 => ?_)
                    refine JL_bnd fun z67 hz68 => ?_
                    refine JL_st (wants_none rfl) rfl (st_append_od 6 0 Try.underlying25 ti_23 zi_23 rfl bi_23 rfl rfl rfl rfl rfl rfl hz68) (fun v69 => ?_)
                    refine JL_q (wants_none rfl) rfl (ex_assign rfl) ?_
                    refine JL_nil ?_
                    refine N_then ?_
                    refine J_region ?_
                    refine JL_q (wants_none rfl) rfl (ex_move rfl) ?_
                    refine JL_q (wants_none rfl) rfl (ex_move rfl) ?_
                    refine JL_q (wants_none rfl) rfl (ex_move rfl) ?_
                    refine JL_st (wants_none rfl) rfl (st_buildSlice (vs := [.int .i64 s4.2.2.2.2, .int .i64 s7.2.2.2.2]) ([s4.2.2.2.2, s7.2.2.2.2] : List Int) Try.underlying23 ti_2 zi_2 rfl rfl rfl (fun w hh => ⟨(Rd.mk_int _ _ _), (Rd.mk_int _ _ _), trivial⟩)) (fun b70 => ?_)
                    refine JL_ctx (fun w hh => hh.tokf 0 rfl rfl) ?_
                    refine JL_st (wants_none rfl) rfl (st_buildSlice_od (vs := [(.slice (some ⟨b70, 0, none⟩) 2 2)]) (B := ((((.slice (some ⟨b70, 0, none⟩) 2 2) : Value).ownBlock.toList ++ []) ++ [])) ([([s4.2.2.2.2, s7.2.2.2.2] : List Int)] : List (List Int)) [0] Try.underlying25 ti_23 zi_23 rfl rfl rfl rfl rfl (fun w hh => (dwv_cons (hh.dw 0 rfl) dwv_nil))) (fun b71 => ?_)
                    refine JL_bnd fun z72 hz73 => ?_
                    refine JL_st (wants_none rfl) rfl (st_append_od 10 0 Try.underlying25 ti_23 zi_23 rfl bi_23 rfl rfl rfl rfl rfl rfl hz73) (fun v74 => ?_)
                    refine JL_q (wants_none rfl) rfl (ex_assign rfl) ?_
                    refine JL_nil ?_
                    refine N_block ?_
                    refine N_then ?_
                    refine J_region ?_
                    refine JL_q (wants_none rfl) rfl (ex_move rfl) ?_
                    refine JL_q (wants_none rfl) rfl (ex_add rfl rfl) ?_
                    refine JL_q (wants_none rfl) rfl (ex_assign rfl) ?_
                    refine JL_nil ?_
                    exact N_next' (v69, (g8_1 ++ (((x12 : Value).ownBlock.toList ++ []) ++ [])), v74, (g8_3 ++ ((((.slice (some ⟨b70, 0, none⟩) 2 2) : Value).ownBlock.toList ++ []) ++ [])), (.slice (some ⟨b64, 0, none⟩) (cpyAt z39 (w64 (s20.1 + 1)) (z39.length : Int) z47).length cap65)) ⟨rfl, rfl, rfl, rfl, rfl, rfl, rfl, rfl, trivial⟩ [7, 8, 9, 10, 6] rfl rfl
        · refine J_exit ?_
          refine N_then_exit ?_
          exact N_break' (g8_0, g8_1, g8_2, g8_3, g8_4) ⟨rfl, rfl, rfl, rfl, rfl, rfl, rfl, rfl, trivial⟩ [0, 1, 2, 3, 4] rfl rfl
      · obtain ⟨g8_0, g8_1, g8_2, g8_3, g8_4⟩ := g8
        refine N_block ?_
        refine N_then ?_
        refine J_region ?_
        refine JL_q (wants_none rfl) rfl (ex_move rfl) ?_
        refine JL_q (wants_none rfl) rfl (ex_add rfl rfl) ?_
        refine JL_q (wants_none rfl) rfl (ex_assign rfl) ?_
        refine JL_nil ?_
        exact N_next' (g8_0, g8_1, g8_2, g8_3, g8_4) ⟨rfl, rfl, rfl, rfl, rfl, rfl, rfl, trivial⟩ [0, 1, 2, 3, 4] rfl rfl
    · refine J_exit ?_
      refine N_then_exit ?_
      exact N_break' (g5_0, g5_1, g5_2, g5_3, g5_4) ⟨rfl, rfl, rfl, rfl, rfl, rfl, rfl, trivial⟩ [0, 1, 2, 3, 4] rfl rfl
  · obtain ⟨g5_0, g5_1, g5_2, g5_3, g5_4⟩ := g5
    refine N_then ?_
    refine J_seq ?_
    refine J_region ?_
    refine JL_q (wants_none rfl) rfl (ex_move rfl) ?_
    refine JL_q (wants_none rfl) rfl (ex_move rfl) ?_
    refine JL_q (wants_none rfl) rfl (ex_move rfl) ?_
    refine JL_q (wants_none rfl) rfl (ex_assign rfl) ?_
    refine JL_q (wants_none rfl) rfl (ex_assign rfl) ?_
    refine JL_q (wants_none rfl) rfl (ex_assign rfl) ?_
    refine JL_nil ?_
    refine N_then ?_
    refine J_ret ?_
    exact N_ret3 rfl (rv_tmp rfl) (rv_tmp rfl) (rv_tmp rfl) (fun w hh => ⟨(g5_0, g5_1, g5_2, g5_3), rfl, hh.sel [2, 3] rfl⟩)

set_option maxHeartbeats 40000000 in
theorem c_spec_l10Find (A : Nat → Prop) (w : World) (hA : ∀ k, A k → k < w.heap.size) (v0_ : Value) (p0 : (List GRewrite)) (hp0 : Rd A w v0_ p0) (v1_ : Value) (p1 : (List Int)) (hp1 : Rd A w v1_ p1) (p2 : Int) (r : ((List (List Int)) × (List Int) × (List (List Int)) × Bool)) (hr : F_spec_l10Find p0 p1 p2 = some r) :
    Con Try.prog 38 [v0_, v1_, .int .i64 p2] A w (fun x_ : Value × List Nat × Value × Value × List Nat × Nat => .pointer (some ⟨x_.2.2.2.2.2, 0, none⟩)) (fun x_ => [.od 23 x_.1 r.1 x_.2.1, .ow 2 x_.2.2.1 r.2.1, .od 23 x_.2.2.2.1 r.2.2.1 x_.2.2.2.2.1, .bx x_.2.2.2.2.2 78 [x_.1, x_.2.2.1, x_.2.2.2.1, .bool r.2.2.2]]) := by
  refine Con_of (v := fun (r : ((List (List Int)) × (List Int) × (List (List Int)) × Bool)) (x_ : Value × List Nat × Value × Value × List Nat × Nat) => .pointer (some ⟨x_.2.2.2.2.2, 0, none⟩)) (fs := fun r x_ => [.od 23 x_.1 r.1 x_.2.1, .ow 2 x_.2.2.1 r.2.1, .od 23 x_.2.2.2.1 r.2.2.1 x_.2.2.2.2.1, .bx x_.2.2.2.2.2 78 [x_.1, x_.2.2.1, x_.2.2.2.1, .bool r.2.2.2]]) Try.func38 rfl Try.ntmps38 rfl (((SH.start hA).start_rd rfl hp0).start_rd rfl hp1) rfl ?_ hr
  unfold F_spec_l10Find
  refine J_seq ?_
  refine J_region ?_
  refine JL_q (wants_none rfl) rfl (ex_assign rfl) ?_
  refine JL_nil ?_
  refine N_then ?_
  refine J_seq ?_
  refine J_region ?_
  refine JL_q (wants_none rfl) rfl (ex_move rfl) ?_
  refine JL_bnd fun r1 hr2 => ?_
  refine JL_call (wants_none rfl) rfl Try.call82 rfl (Ca_self (fun _ => rfl) fun w hh => c_spec_l00Own _ w (fun _ hk => hk.elim) _ _ (hh.rd0 0 rfl) _ hr2) (fun x3 => ?_)
  refine JL_ctx (fun w hh => hh.tokf 0 rfl rfl) ?_
  refine JL_st (wants_none rfl) rfl (st_buildSlice_od (vs := [x3]) (B := (((x3 : Value).ownBlock.toList ++ []) ++ [])) ([r1] : List (List Int)) [0] Try.underlying25 ti_23 zi_23 rfl rfl rfl rfl rfl (fun w hh => (dwv_cons (hh.dw 0 rfl) dwv_nil))) (fun b4 => ?_)
  refine JL_st (wants_none rfl) rfl (st_buildSlice (vs := [.int .i64 (-1)]) ([(-1)] : List Int) Try.underlying23 ti_2 zi_2 rfl rfl rfl (fun w hh => ⟨(Rd.mk_int _ _ _), trivial⟩)) (fun b5 => ?_)
  refine JL_st (wants_none rfl) rfl (st_buildSlice_od (vs := [.slice none 0 0]) (B := ([] : List Nat)) ([([] : (List Int))] : List (List Int)) [] Try.underlying25 ti_23 zi_23 rfl rfl rfl rfl rfl (fun w hh => (dwv_cons dw_nil dwv_nil))) (fun b6 => ?_)
  refine JL_q (wants_none rfl) rfl (ex_build si_78 rfl (.cons fi_78_0 rfl rfl (.cons fi_78_1 rfl rfl (.cons fi_78_2 rfl rfl (.cons fi_78_3 rfl rfl .nil)))) (fun w hh => ⟨(hh.cv_od 2 rfl), (hh.cv_ow 1 rfl), (hh.cv_od 0 rfl), cv_bool, trivial⟩)) ?_
  refine JL_st (wants_none rfl) rfl (st_box' rfl (fun w hh => (cv_aggs ⟨(hh.cv_od 2 rfl), (hh.cv_ow 1 rfl), (hh.cv_od 0 rfl), cv_bool, trivial⟩))) (fun b7 => ?_)
  refine JL_q (wants_none rfl) rfl (ex_assign rfl) ?_
  refine JL_nil ?_
  refine N_then ?_
  refine J_seq ?_
  refine J_region ?_
  refine JL_q (wants_none rfl) rfl (ex_move rfl) ?_
  refine JL_bnd fun r8 hr9 => ?_
  refine JL_call (wants_none rfl) rfl Try.call83 rfl (Ca_of0 fun w hh => c_spec_l10Key _ w (fun _ hk => hk.elim) _ _ (hh.rd0 6 rfl) _ hr9) (fun _ => ?_)
  refine JL_st (wants_none rfl) rfl (st_buildSlice (vs := [.string r8]) ([r8] : List ByteArray) Try.underlying140 ti_9 zi_9 rfl rfl rfl (fun w hh => ⟨(Rd.mk_str _ _ _), trivial⟩)) (fun b10 => ?_)
  refine JL_q (wants_none rfl) rfl (ex_assign rfl) ?_
  refine JL_nil ?_
  refine N_then ?_
  refine J_seq ?_
  refine J_seq ?_
  refine J_region ?_
  refine JL_q (wants_none rfl) rfl (ex_assign rfl) ?_
  refine JL_nil ?_
  refine N_then ?_
  refine J_loop' (S := (List (List Int)) × (List Int) × (List (List Int)) × Bool × (List ByteArray) × Int) (G := Value × List Nat × Value × Value × List Nat × Value) (F_spec_l10Find_L1 p0 p2) (fun s11 g12 => [(0, v0_), (2, .int .i64 p2), (7, .pointer (some ⟨b7, 0, none⟩)), (8, g12.2.2.2.2.2), (9, .int .i64 s11.2.2.2.2.2)]) (fun s11 g12 => [.rd v0_ p0, .od 23 g12.1 s11.1 g12.2.1, .ow 2 g12.2.2.1 s11.2.1, .od 23 g12.2.2.2.1 s11.2.2.1 g12.2.2.2.2.1, .bx b7 78 [g12.1, g12.2.2.1, g12.2.2.2.1, .bool s11.2.2.2.1], .ow 9 g12.2.2.2.2.2 s11.2.2.2.2.1]) (([r1] : List (List Int)), ([(-1)] : List Int), ([([] : (List Int))] : List (List Int)), true, ([r8] : List ByteArray), 0) ((.slice (some ⟨b4, 0, none⟩) 1 1), (((x3 : Value).ownBlock.toList ++ []) ++ []), (.slice (some ⟨b5, 0, none⟩) 1 1), (.slice (some ⟨b6, 0, none⟩) 1 1), ([] : List Nat), (.slice (some ⟨b10, 0, none⟩) 1 1)) ⟨rfl, rfl, rfl, rfl, rfl, trivial⟩ [8, 4, 3, 2, 1, 0] rfl rfl (fun s11 g12 => ?_) (fun s11 g12 => ?_)
  · obtain ⟨g12_0, g12_1, g12_2, g12_3, g12_4, g12_5⟩ := g12
    unfold F_spec_l10Find_L1
    refine J_seq ?_
    refine J_seq ?_
    refine J_region ?_
    refine JL_q (wants_none rfl) rfl (ex_move rfl) ?_
    refine JL_q (wants_none rfl) rfl (ex_move rfl) ?_
    refine JL_q (wants_none rfl) rfl (ex_nilCheck rfl) ?_
    refine JL_q (wants_none rfl) rfl (ex_fieldAddr fi_78_0 rfl rfl) ?_
    refine JL_q (wants_none rfl) rfl (ex_load_bx 4 ti_25 rfl rfl rfl) ?_
    refine JL_q (wants_none rfl) rfl (ex_od 1 rfl (ex_len_ow 1 Try.underlying25 rfl rfl)) ?_
    refine JL_q (wants_none rfl) rfl (ex_lss rfl rfl) ?_
    refine JL_nil ?_
    refine N_then ?_
    refine J_if rfl (fun h13 => ?_) (fun h13 => ?_)
    · refine J_skip ?_
      refine N_then ?_
      refine J_seq ?_
      refine J_block ?_
      refine J_seq ?_
      refine J_seq ?_
      refine J_region ?_
      refine JL_q (wants_none rfl) rfl (ex_move rfl) ?_
      refine JL_q (wants_none rfl) rfl (ex_move rfl) ?_
      refine JL_q (wants_none rfl) rfl (ex_eql rfl rfl) ?_
      refine JL_nil ?_
      refine N_then ?_
      refine J_if rfl (fun h14 => ?_) (fun h14 => ?_)
      · refine J_seq ?_
        refine J_region ?_
        refine JL_q (wants_none rfl) rfl (ex_move rfl) ?_
        refine JL_q (wants_none rfl) rfl (ex_nilCheck rfl) ?_
        refine JL_q (wants_none rfl) rfl (ex_fieldAddr fi_78_3 rfl rfl) ?_
        refine JL_sk (wants_none rfl) (sk_store_bx' 4 ti_4 rfl rfl (fun w hh => cv_bool) rfl rfl rfl rfl) ?_
        refine JL_nil ?_
        refine N_then ?_
        refine J_seq ?_
        refine J_region ?_
        refine JL_q (wants_none rfl) rfl (ex_move rfl) ?_
        refine JL_q (wants_none rfl) rfl (ex_assign rfl) ?_
        refine JL_nil ?_
        refine N_then ?_
        refine J_ret ?_
        refine N_then_ret ?_
        refine N_block_ret ?_
        refine N_then_ret ?_
        refine N_round_ret ?_
        refine N_then_ret ?_
        exact N_ret1 rfl (rv_tmp rfl) (fun w hh => ⟨(g12_0, g12_1, g12_2, g12_3, g12_4, b7), rfl, hh.sel [1, 2, 3, 4] rfl⟩)
      · refine J_skip ?_
        refine N_then ?_
        refine J_seq ?_
        refine J_region ?_
        refine JL_q (wants_none rfl) rfl (ex_move rfl) ?_
        refine JL_q (wants_none rfl) rfl (ex_move rfl) ?_
        refine JL_q (wants_none rfl) rfl (ex_nilCheck rfl) ?_
        refine JL_q (wants_none rfl) rfl (ex_fieldAddr fi_78_0 rfl rfl) ?_
        refine JL_q (wants_none rfl) rfl (ex_load_bx 4 ti_25 rfl rfl rfl) ?_
        refine JL_q (wants_none rfl) rfl (ex_move rfl) ?_
        refine JL_bnd fun y15 hy16 => ?_
        refine JL_od_open (v := g12_0) 1 rfl hy16 ?_; rintro b17 cap18 rfl
        refine JL_q (wants_none rfl) rfl (ex_od 1 rfl (ex_index_ow 1 Try.underlying25 ti_23 rfl rfl rfl hy16)) ?_
        refine JL_st (wants_none rfl) rfl (st_od 1 rfl (st_load_ow_o 1 (opens_sl _) ti_23 rfl rfl hy16) (fun _ => rfl)) (fun v19 => ?_)
        refine JL_bnd fun r20 hr21 => ?_
        refine JL_call (wants_none rfl) rfl Try.call84 rfl (Ca_self (fun _ => rfl) fun w hh => c_spec_l10Next _ w (fun _ hk => hk.elim) _ _ (hh.rd0 1 rfl) _ _ (hh.rd0 0 rfl) _ hr21) (fun x22 => ?_)
        obtain ⟨x22_0, x22_1, x22_2, x22_3⟩ := x22
        refine JL_q (wants_none rfl) rfl (ex_move rfl) ?_
        refine JL_q (wants_none rfl) rfl (ex_extract rfl rfl) ?_
        refine JL_q (wants_none rfl) rfl (ex_extract rfl rfl) ?_
        refine JL_q (wants_none rfl) rfl (ex_extract rfl rfl) ?_
        refine JL_q (wants_none rfl) rfl (ex_assign rfl) ?_
        refine JL_q (wants_none rfl) rfl (ex_assign rfl) ?_
        refine JL_q (wants_none rfl) rfl (ex_assign rfl) ?_
        refine JL_nil ?_
        refine N_then ?_
        refine J_seq ?_
        refine J_cut' (S' := Bool) (G' := Unit) (fun s23 _ => [(0, v0_), (2, .int .i64 p2), (7, .pointer (some ⟨b7, 0, none⟩)), (8, g12_5), (9, .int .i64 s11.2.2.2.2.2), (10, x22_0), (11, x22_2)]) (fun s23 _ => [.rd v0_ p0, .od 23 (.slice (some ⟨b17, 0, none⟩) s11.1.length cap18) s11.1 g12_1, .ow 2 g12_2 s11.2.1, .od 23 g12_3 s11.2.2.1 g12_4, .bx b7 78 [(.slice (some ⟨b17, 0, none⟩) s11.1.length cap18), g12_2, g12_3, .bool s23], .ow 9 g12_5 s11.2.2.2.2.1, .od 23 x22_0 r20.1 x22_1, .od 23 x22_2 r20.2.1 x22_3]) ?_ (fun s23 g24 => ?_)
        · refine J_region ?_
          refine JL_q (wants_none rfl) rfl (ex_move rfl) ?_
          refine JL_q (wants_none rfl) rfl (ex_move rfl) ?_
          refine JL_q (wants_none rfl) rfl (ex_nilCheck rfl) ?_
          refine JL_q (wants_none rfl) rfl (ex_fieldAddr fi_78_3 rfl rfl) ?_
          refine JL_q (wants_none rfl) rfl (ex_load_bx 7 ti_4 rfl rfl rfl) ?_
          refine JL_q (wants_none rfl) rfl (ex_move rfl) ?_
          refine JL_cond (fun h25 => ?_) (fun h25 => ?_)
          · refine JL_q (wants_some rfl rfl rfl h25) rfl (ex_move rfl) ?_
            refine JL_q (wants_none rfl) rfl (ex_pick_true rfl h25 rfl) ?_
            refine JL_q (wants_none rfl) rfl (ex_nilCheck rfl) ?_
            refine JL_q (wants_none rfl) rfl (ex_fieldAddr fi_78_3 rfl rfl) ?_
            refine JL_sk (wants_none rfl) (sk_store_bx' 7 ti_4 rfl rfl (fun w hh => cv_bool) rfl rfl rfl rfl) ?_
            refine JL_nil ?_
            exact N_meet' () ⟨rfl, rfl, rfl, rfl, rfl, rfl, rfl, trivial⟩ [3, 4, 5, 6, 7, 8, 0, 1] rfl rfl
          · refine JL_passed rfl rfl rfl h25 ?_
            refine JL_q (wants_none rfl) rfl (ex_pick_false rfl h25 rfl) ?_
            refine JL_q (wants_none rfl) rfl (ex_nilCheck rfl) ?_
            refine JL_q (wants_none rfl) rfl (ex_fieldAddr fi_78_3 rfl rfl) ?_
            refine JL_sk (wants_none rfl) (sk_store_bx' 7 ti_4 rfl rfl (fun w hh => cv_bool) rfl rfl rfl rfl) ?_
            refine JL_nil ?_
            exact N_meet' () ⟨rfl, rfl, rfl, rfl, rfl, rfl, rfl, trivial⟩ [3, 4, 5, 6, 7, 8, 0, 1] rfl rfl
        · refine N_then ?_
          refine J_seq ?_
          refine J_region ?_
          refine JL_q (wants_none rfl) rfl (ex_assign rfl) ?_
          refine JL_nil ?_
          refine N_then ?_
          refine J_tail 6 rfl 0 (fun ts26 hts27 hln28 => ?_)
          refine J_tail 9 rfl 0 (fun ts29 hts30 hln31 => ?_)
          refine J_loop' (S := (List (List Int)) × (List Int) × (List (List Int)) × (List ByteArray) × Int) (G := Value × List Nat × Value × Value × List Nat × Value) (F_spec_l10Find_L2 s11 r20) (fun s32 g33 => [(0, v0_), (2, .int .i64 p2), (7, .pointer (some ⟨b7, 0, none⟩)), (8, g33.2.2.2.2.2), (9, .int .i64 s11.2.2.2.2.2), (10, x22_0), (11, x22_2), (13, .int .i64 s32.2.2.2.2)]) (fun s32 g33 => [.rd v0_ p0, .od 23 g33.1 s32.1 g33.2.1, .ow 2 g33.2.2.1 s32.2.1, .od 23 g33.2.2.2.1 s32.2.2.1 g33.2.2.2.2.1, .bx b7 78 [g33.1, g33.2.2.1, g33.2.2.2.1, .bool s23], .ow 9 g33.2.2.2.2.2 s32.2.2.2.1, .rd x22_0 r20.1, .rd x22_0 ts26, hld (tlB ts26 s32.2.2.2.2), .rd x22_2 r20.2.1, .rd x22_2 ts29, hld (tlB ts29 s32.2.2.2.2)]) (s11.1, s11.2.1, s11.2.2.1, s11.2.2.2.2.1, 0) ((.slice (some ⟨b17, 0, none⟩) s11.1.length cap18), g12_1, g12_2, g12_3, g12_4, g12_5) ⟨rfl, rfl, rfl, rfl, rfl, rfl, rfl, rfl, trivial⟩ [4, 5, 6, 7, 8, 9, 10, 3, 2, 11, 1, 0] rfl rfl (fun s32 g33 => ?_) (fun s32 g33 => ?_)
          · obtain ⟨g33_0, g33_1, g33_2, g33_3, g33_4, g33_5⟩ := g33
            unfold F_spec_l10Find_L2
            refine J_seq ?_
            refine J_seq ?_
            refine J_region ?_
            refine JL_q (wants_none rfl) rfl (ex_move rfl) ?_
            refine JL_q (wants_none rfl) rfl (ex_move rfl) ?_
            refine JL_q (wants_none rfl) rfl (ex_len_rd 6 Try.underlying25 rfl rfl) ?_
            refine JL_q (wants_none rfl) rfl (ex_lss rfl rfl) ?_
            refine JL_nil ?_
            refine N_then ?_
            refine J_if rfl (fun h34 => ?_) (fun h34 => ?_)
            · refine J_skip ?_
              refine N_then ?_
              refine J_seq ?_
              refine J_block ?_
              refine J_seq ?_
              refine J_region ?_
              refine JL_q (wants_none rfl) rfl (ex_move rfl) ?_
              refine JL_q (wants_none rfl) rfl (ex_move rfl) ?_
              refine JL_q (wants_none rfl) rfl (ex_move rfl) ?_
              refine JL_bnd fun y35 hy36 => ?_
              refine JL_st (wants_none rfl) rfl (st_index 6 Try.underlying25 ti_23 rfl rfl rfl hy36) (fun q37 => ?_)
              refine JL_st (wants_none rfl) rfl (st_load_pt_o 0 (opens_sl _) ti_23 rfl rfl) (fun v38 => ?_)
              refine JL_bnd fun r39 hr40 => ?_
              refine JL_call (wants_none rfl) rfl Try.call83 rfl (Ca_of0 fun w hh => c_spec_l10Key _ w (fun _ hk => hk.elim) _ _ (hh.rd0 0 rfl) _ hr40) (fun _ => ?_)
              refine JL_inline (wants_none rfl) rfl Try.call85 rfl Try.func85 rfl Try.ntmps85 rfl rfl (fun K_ hK41 => ?_)
              refine J_seq ?_
              refine J_region ?_
              refine JL_q (wants_none rfl) rfl (ex_assign rfl) ?_
              refine JL_q (wants_none rfl) rfl (ex_assign rfl) ?_
              refine JL_nil ?_
              refine N_then ?_
              refine J_seq ?_
              refine J_region ?_
              refine JL_q (wants_none rfl) rfl (ex_assign rfl) ?_
              refine JL_nil ?_
              refine N_then ?_
              refine J_seq ?_
              refine J_region ?_
              refine JL_q (wants_none rfl) rfl (ex_move rfl) ?_
              refine JL_q (wants_none rfl) rfl (ex_len_ow 7 Try.underlying140 rfl rfl) ?_
              refine JL_q (wants_none rfl) rfl (ex_assign rfl) ?_
              refine JL_nil ?_
              refine N_then ?_
              refine J_seq ?_
              refine J_loop' (S := Int × Int) (G := Unit) (F_spec_l10Find_L3 s32 r39) (fun s42 _ => [(0, g33_5), (1, .string r39), (6, .int .i64 s42.1), (7, .int .i64 s42.2)]) (fun s42 _ => [.ow 9 g33_5 s32.2.2.2.1, .rd v0_ p0, .od 23 g33_0 s32.1 g33_1, .ow 2 g33_2 s32.2.1, .od 23 g33_3 s32.2.2.1 g33_4, .bx b7 78 [g33_0, g33_2, g33_3, .bool s23], .rd x22_0 r20.1, .rd x22_0 ts26, hld (tlB ts26 s32.2.2.2.2), .rd x22_2 r20.2.1, .rd x22_2 ts29, hld (tlB ts29 s32.2.2.2.2)]) (0, (s32.2.2.2.1.length : Int)) () ⟨rfl, rfl, rfl, rfl, trivial⟩ [7, 2, 3, 4, 5, 6, 8, 9, 10, 11, 12, 13] rfl rfl (fun s42 g43 => ?_) (fun s42 g43 => ?_)
              · unfold F_spec_l10Find_L3
                refine J_seq ?_
                refine J_seq ?_
                refine J_region ?_
                refine JL_q (wants_none rfl) rfl (ex_move rfl) ?_
                refine JL_q (wants_none rfl) rfl (ex_move rfl) ?_
                refine JL_q (wants_none rfl) rfl (ex_lss rfl rfl) ?_
                refine JL_nil ?_
                refine N_then ?_
                refine J_if rfl (fun h44 => ?_) (fun h44 => ?_)
                · refine J_skip ?_
                  refine N_then ?_
                  refine J_block ?_
                  refine J_seq ?_
                  refine J_region ?_
                  refine JL_q (wants_none rfl) rfl (ex_move rfl) ?_
                  refine JL_q (wants_none rfl) rfl (ex_move rfl) ?_
                  refine JL_q (wants_none rfl) rfl (ex_add rfl rfl) ?_
                  refine JL_q (wants_none rfl) rfl (ex_quo rfl rfl (by decide)) ?_
                  refine JL_q (wants_none rfl) rfl (ex_assign rfl) ?_
                  refine JL_nil ?_
                  refine N_then ?_
                  refine J_seq ?_
                  refine J_region ?_
                  refine JL_q (wants_none rfl) rfl (ex_move rfl) ?_
                  refine JL_q (wants_none rfl) rfl (ex_move rfl) ?_
                  refine JL_bnd fun y45 hy46 => ?_
                  refine JL_ow_open (v := g33_5) 0 rfl hy46 ?_; rintro b47 cap48 rfl
                  refine JL_q (wants_none rfl) rfl (ex_index_ow 0 Try.underlying140 ti_9 rfl rfl rfl hy46) ?_
                  refine JL_st (wants_none rfl) rfl (st_load_ow_o 0 (opens_str _) ti_9 rfl rfl hy46) (fun _ => ?_)
                  refine JL_q (wants_none rfl) rfl (ex_move rfl) ?_
                  refine JL_q (wants_none rfl) rfl (ex_lss_str rfl rfl) ?_
                  refine JL_nil ?_
                  refine N_then ?_
                  refine J_if rfl (fun h50 => ?_) (fun h50 => ?_)
                  · refine J_region ?_
                    refine JL_q (wants_none rfl) rfl (ex_move rfl) ?_
                    refine JL_q (wants_none rfl) rfl (ex_add rfl rfl) ?_
                    refine JL_q (wants_none rfl) rfl (ex_assign rfl) ?_
                    refine JL_nil ?_
                    refine N_block ?_
                    exact N_next' () ⟨rfl, rfl, rfl, rfl, trivial⟩ [0, 1, 2, 3, 4, 5, 6, 7, 8, 9, 10, 11] rfl rfl
                  · refine J_region ?_
                    refine JL_q (wants_none rfl) rfl (ex_move rfl) ?_
                    refine JL_q (wants_none rfl) rfl (ex_assign rfl) ?_
                    refine JL_nil ?_
                    refine N_block ?_
                    exact N_next' () ⟨rfl, rfl, rfl, rfl, trivial⟩ [0, 1, 2, 3, 4, 5, 6, 7, 8, 9, 10, 11] rfl rfl
                · refine J_exit ?_
                  refine N_then_exit ?_
                  exact N_break' () ⟨rfl, rfl, rfl, rfl, trivial⟩ [0, 1, 2, 3, 4, 5, 6, 7, 8, 9, 10, 11] rfl rfl
              · refine N_then ?_
                refine J_seq ?_
                refine J_cut' (S' := Unit) (G' := Unit) (fun _ _ => [(0, g33_5), (1, .string r39), (6, .int .i64 s42.1)]) (fun _ _ => [.ow 9 g33_5 s32.2.2.2.1, .rd v0_ p0, .od 23 g33_0 s32.1 g33_1, .ow 2 g33_2 s32.2.1, .od 23 g33_3 s32.2.2.1 g33_4, .bx b7 78 [g33_0, g33_2, g33_3, .bool s23], .rd x22_0 r20.1, .rd x22_0 ts26, hld (tlB ts26 s32.2.2.2.2), .rd x22_2 r20.2.1, .rd x22_2 ts29, hld (tlB ts29 s32.2.2.2.2)]) ?_ (fun s51 g52 => ?_)
                · refine J_seq ?_
                  refine J_region ?_
                  refine JL_q (wants_none rfl) rfl (ex_move rfl) ?_
                  refine JL_q (wants_none rfl) rfl (ex_move rfl) ?_
                  refine JL_q (wants_none rfl) rfl (ex_len_ow 0 Try.underlying140 rfl rfl) ?_
                  refine JL_q (wants_none rfl) rfl (ex_lss rfl rfl) ?_
                  refine JL_q (wants_none rfl) rfl (ex_move rfl) ?_
                  refine JL_cond (fun h53 => ?_) (fun h53 => ?_)
                  · refine JL_q (wants_some rfl rfl rfl h53) rfl (ex_move rfl) ?_
                    refine JL_q (wants_some rfl rfl rfl h53) rfl (ex_move rfl) ?_
                    refine JL_bnd fun y54 hy55 => ?_
                    refine JL_ow_open (v := g33_5) 0 rfl hy55 ?_; rintro b56 cap57 rfl
                    refine JL_q (wants_some rfl rfl rfl h53) rfl (ex_index_ow 0 Try.underlying140 ti_9 rfl rfl rfl hy55) ?_
                    refine JL_st (wants_some rfl rfl rfl h53) rfl (st_load_ow_o 0 (opens_str _) ti_9 rfl rfl hy55) (fun _ => ?_)
                    refine JL_q (wants_some rfl rfl rfl h53) rfl (ex_move rfl) ?_
                    refine JL_q (wants_some rfl rfl rfl h53) rfl (ex_eql_str rfl rfl) ?_
                    refine JL_q (wants_none rfl) rfl (ex_pick_true rfl h53 rfl) ?_
                    refine JL_nil ?_
                    refine N_then ?_
                    refine J_if rfl (fun h59 => ?_) (fun h59 => ?_)
                    · refine J_seq ?_
                      refine J_region ?_
                      refine JL_q (wants_none rfl) rfl (ex_move rfl) ?_
                      refine JL_q (wants_none rfl) rfl (ex_assign rfl) ?_
                      refine JL_q (wants_none rfl) rfl (ex_assign rfl) ?_
                      refine JL_nil ?_
                      refine N_then ?_
                      refine J_ret ?_
                      refine N_mid_reti ?_
                      refine N_then_ret ?_
                      refine N_inl2 hK41 rfl (rv_tmp rfl) (rv_tmp rfl) ?_
                      refine JL_q (wants_none rfl) rfl (ex_move rfl) ?_
                      refine JL_q (wants_none rfl) rfl (ex_extract rfl rfl) ?_
                      refine JL_q (wants_none rfl) rfl (ex_extract rfl rfl) ?_
                      refine JL_q (wants_none rfl) rfl (ex_assign rfl) ?_
                      refine JL_q (wants_none rfl) rfl (ex_assign rfl) ?_
                      refine JL_nil ?_
                      refine N_then ?_
                      refine J_seq ?_
                      refine J_region ?_
                      refine JL_q (wants_none rfl) rfl (ex_move rfl) ?_
                      refine JL_q (wants_none rfl) rfl (ex_assign rfl) ?_
                      refine JL_nil ?_
                      refine N_then ?_
                      refine J_seq ?_
                      refine J_seq ?_
                      refine J_region ?_
                      refine JL_q (wants_none rfl) rfl (ex_move rfl) ?_
                      refine JL_q (wants_none rfl) rfl (ex_not rfl) ?_
                      refine JL_nil ?_
                      refine N_then ?_
                      refine J_if_true rfl rfl ?_
                      refine J_exit ?_
                      refine N_then_exit ?_
                      refine N_block_exit ?_
                      refine N_then ?_
                      refine J_region ?_
                      refine JL_q (wants_none rfl) rfl (ex_move rfl) ?_
                      refine JL_q (wants_none rfl) rfl (ex_add rfl rfl) ?_
                      refine JL_q (wants_none rfl) rfl (ex_assign rfl) ?_
                      refine JL_nil ?_
                      refine N_ctx (fun w hh => hh.hld_sub 8 rfl (tl_sub hts27 hln28 h34)) ?_
                      refine N_ctx (fun w hh => hh.hld_sub 11 rfl (tl_sub hts27 hln28 h34)) ?_
                      exact N_next' (g33_0, g33_1, g33_2, g33_3, g33_4, (.slice (some ⟨b56, 0, none⟩) s32.2.2.2.1.length cap57)) ⟨rfl, rfl, rfl, rfl, rfl, rfl, rfl, rfl, trivial⟩ [1, 2, 3, 4, 5, 0, 6, 7, 8, 9, 10, 11] rfl rfl
                    · refine J_skip ?_
                      exact N_meet' () ⟨rfl, rfl, rfl, trivial⟩ [0, 1, 2, 3, 4, 5, 6, 7, 8, 9, 10, 11] rfl rfl
                  · refine JL_passed rfl rfl rfl h53 ?_
                    refine JL_passed rfl rfl rfl h53 ?_
                    refine JL_passed rfl rfl rfl h53 ?_
                    refine JL_passed rfl rfl rfl h53 ?_
                    refine JL_passed rfl rfl rfl h53 ?_
                    refine JL_passed rfl rfl rfl h53 ?_
                    refine JL_q (wants_none rfl) rfl (ex_pick_false rfl h53 rfl) ?_
                    refine JL_nil ?_
                    refine N_then ?_
                    refine J_if_false rfl rfl ?_
                    refine J_skip ?_
                    exact N_meet' () ⟨rfl, rfl, rfl, trivial⟩ [0, 1, 2, 3, 4, 5, 6, 7, 8, 9, 10, 11] rfl rfl
                · refine N_then ?_
                  refine J_seq ?_
                  refine J_region ?_
                  refine JL_q (wants_none rfl) rfl (ex_move rfl) ?_
                  refine JL_st (wants_none rfl) rfl (st_buildSlice (vs := [.string (⟨#[]⟩ : ByteArray)]) ([(⟨#[]⟩ : ByteArray)] : List ByteArray) Try.underlying140 ti_9 zi_9 rfl rfl rfl (fun w hh => ⟨(Rd.mk_str _ _ _), trivial⟩)) (fun b60 => ?_)
                  refine JL_bnd fun z61 hz62 => ?_
                  refine JL_st (wants_none rfl) rfl (st_append 1 Try.underlying140 ti_9 zi_9 rfl bi_9 rfl rfl rfl rfl (fun w hh => hh.src_ow 0 rfl) hz62) (fun v63 => ?_)
                  refine JL_q (wants_none rfl) rfl (ex_assign rfl) ?_
                  refine JL_nil ?_
                  refine N_then ?_
                  refine J_seq ?_
                  refine J_draw [1] (by kernel_rfl) ?_
                  refine JP_take (i := 0) [0, 2, 3, 4, 5, 6, 7, 8, 9, 10, 11, 12] [1] rfl (by kernel_rfl) (by kernel_rfl) (by kernel_rfl) rfl rfl (wants_none rfl) rfl (ex_move rfl) ?_
                  refine JP_take (i := 1) [0, 2, 3, 4, 5, 6, 7, 8, 9, 10, 11, 12] [1] rfl (by kernel_rfl) (by kernel_rfl) (by kernel_rfl) rfl rfl (wants_none rfl) rfl (ex_move rfl) ?_
                  refine JP_take (i := 2) [0, 2, 3, 4, 5, 6, 7, 8, 9, 10, 11, 12] [1] rfl (by kernel_rfl) (by kernel_rfl) (by kernel_rfl) rfl rfl (wants_none rfl) rfl (ex_add rfl rfl) ?_
                  refine JP_take (i := 4) [0, 2, 3, 4, 5, 6, 7, 8, 9, 10, 11, 12] [1] rfl (by kernel_rfl) (by kernel_rfl) (by kernel_rfl) rfl rfl (wants_none rfl) rfl (ex_move rfl) ?_
                  refine JP_take (i := 5) [0, 2, 3, 4, 5, 6, 7, 8, 9, 10, 11, 12] [1] rfl (by kernel_rfl) (by kernel_rfl) (by kernel_rfl) rfl rfl (wants_none rfl) rfl (ex_move rfl) ?_
                  refine JP_go [0, 2, 3, 4, 5, 6, 7, 8, 9, 10, 11, 12] [1] rfl rfl rfl (fun w65 h1_66 hp64 => ?_)
                  refine JD_bnd fun z67 hz68 => ?_
                  refine JD_bnd fun z69 hz70 => ?_
                  refine JD_two (i := 3) (j := 6) (by kernel_rfl) ?_ ?_
                  · refine JO_q rfl (wants_none rfl) rfl (ex_slice_ow 1 Try.underlying140 ti_9 rfl rfl rfl rfl hz68) ?_
                    refine JD_one (i := 6) (by kernel_rfl) ?_
                    refine JO_q rfl (wants_none rfl) rfl (ex_slice_ow 1 Try.underlying140 ti_9 rfl rfl rfl rfl hz70) ?_
                    refine JD_one (i := 7) (by kernel_rfl) ?_
                    refine JO_st rfl (wants_none rfl) rfl (st_copy_at 1 rfl Try.underlying140 ti_9 rfl rfl rfl hz68 (fun w hh => hh.src_own 1 rfl hz70)) (sub_ow 0 rfl) (fun _ => ?_)
                    refine JD_done (by kernel_rfl) ?_
                    refine N_then ?_
                    refine J_seq ?_
                    refine J_region ?_
                    refine JL_q (wants_none rfl) rfl (ex_move rfl) ?_
                    refine JL_q (wants_none rfl) rfl (ex_move rfl) ?_
                    refine JL_q (wants_none rfl) rfl (ex_move rfl) ?_
                    refine JL_bnd fun y71 hy72 => ?_
                    refine JL_ow_open (v := v63) 1 rfl hy72 ?_; rintro b73 cap74 rfl
                    refine JL_q (wants_none rfl) rfl (ex_index_ow 1 Try.underlying140 ti_9 rfl rfl rfl hy72) ?_
                    refine JL_sk (wants_none rfl) (sk_store_ow 1 ti_9 rfl rfl rfl hy72 (fun w hh => (Rd.mk_str _ _ _))) ?_
                    refine JL_nil ?_
                    refine N_then ?_
                    refine J_seq ?_
                    refine J_region ?_
                    refine JL_q (wants_none rfl) rfl (ex_move rfl) ?_
                    refine JL_q (wants_none rfl) rfl (ex_assign rfl) ?_
                    refine JL_q (wants_none rfl) rfl (ex_assign rfl) ?_
                    refine JL_nil ?_
                    refine N_then ?_
                    refine J_ret ?_
                    refine N_inl2 hK41 rfl (rv_tmp rfl) (rv_tmp rfl) ?_
                    refine JL_q (wants_none rfl) rfl (ex_move rfl) ?_
                    refine JL_q (wants_none rfl) rfl (ex_extract rfl rfl) ?_
                    refine JL_q (wants_none rfl) rfl (ex_extract rfl rfl) ?_
                    refine JL_q (wants_none rfl) rfl (ex_assign rfl) ?_
                    refine JL_q (wants_none rfl) rfl (ex_assign rfl) ?_
                    refine JL_nil ?_
                    refine N_then ?_
                    refine J_seq ?_
                    refine J_region ?_
                    refine JL_q (wants_none rfl) rfl (ex_move rfl) ?_
                    refine JL_q (wants_none rfl) rfl (ex_assign rfl) ?_
                    refine JL_nil ?_
                    refine N_then ?_
                    refine J_seq ?_
                    refine J_seq ?_
                    refine J_region ?_
                    refine JL_q (wants_none rfl) rfl (ex_move rfl) ?_
                    refine JL_q (wants_none rfl) rfl (ex_not rfl) ?_
                    refine JL_nil ?_
                    refine N_then ?_
                    refine J_if_false rfl rfl ?_
                    refine J_skip ?_
                    refine N_then ?_
                    refine J_seq ?_
                    refine J_cut' (S' := (List (List Int))) (G' := Value × List Nat) (fun s75 g76 => [(0, v0_), (2, .int .i64 p2), (7, .pointer (some ⟨b7, 0, none⟩)), (8, (.slice (some ⟨b73, 0, none⟩) (cpyAt z61 (w64 (s42.1 + 1)) (z61.length : Int) z69).length cap74)), (9, .int .i64 s11.2.2.2.2.2), (10, x22_0), (11, x22_2), (13, .int .i64 s32.2.2.2.2)]) (fun s75 g76 => [.rd v0_ p0, .od 23 g76.1 s75 g76.2, .ow 2 g33_2 s32.2.1, .od 23 g33_3 s32.2.2.1 g33_4, .bx b7 78 [g76.1, g33_2, g33_3, .bool s23], .ow 9 (.slice (some ⟨b73, 0, none⟩) (cpyAt z61 (w64 (s42.1 + 1)) (z61.length : Int) z69).length cap74) ((cpyAt z61 (w64 (s42.1 + 1)) (z61.length : Int) z69).set s42.1.toNat r39), .rd x22_0 r20.1, .rd x22_0 ts26, hld (tlB ts26 (w64 (s32.2.2.2.2 + 1))), .rd x22_2 r20.2.1, .rd x22_2 ts29, hld (tlB ts29 s32.2.2.2.2)]) ?_ (fun s75 g76 => ?_)
                    · refine J_draw [3, 6] (by kernel_rfl) ?_
                      refine JP_take (i := 0) [0, 1, 2, 4, 5, 7, 8, 9, 10, 11, 12] [3, 6] rfl (by kernel_rfl) (by kernel_rfl) (by kernel_rfl) rfl rfl (wants_none rfl) rfl (ex_move rfl) ?_
                      refine JP_take (i := 1) [0, 1, 2, 4, 5, 7, 8, 9, 10, 11, 12] [3, 6] rfl (by kernel_rfl) (by kernel_rfl) (by kernel_rfl) rfl rfl (wants_none rfl) rfl (ex_move rfl) ?_
                      refine JP_take (i := 2) [0, 1, 2, 4, 5, 7, 8, 9, 10, 11, 12] [3, 6] rfl (by kernel_rfl) (by kernel_rfl) (by kernel_rfl) rfl rfl (wants_none rfl) rfl (ex_nilCheck rfl) ?_
                      refine JP_take (i := 3) [0, 1, 2, 4, 5, 7, 8, 9, 10, 11, 12] [3, 6] rfl (by kernel_rfl) (by kernel_rfl) (by kernel_rfl) rfl rfl (wants_none rfl) rfl (ex_fieldAddr fi_78_0 rfl rfl) ?_
                      refine JP_take (i := 5) [0, 1, 2, 4, 5, 7, 8, 9, 10, 11, 12] [3, 6] rfl (by kernel_rfl) (by kernel_rfl) (by kernel_rfl) rfl rfl (wants_none rfl) rfl (ex_move rfl) ?_
                      refine JP_take (i := 6) [0, 1, 2, 4, 5, 7, 8, 9, 10, 11, 12] [3, 6] rfl (by kernel_rfl) (by kernel_rfl) (by kernel_rfl) rfl rfl (wants_none rfl) rfl (ex_move rfl) ?_
                      refine JP_bnd fun y77 hy78 => ?_
                      obtain ⟨t80, ht81, hx82⟩ := tl_idx hts27 hy78
                      refine JP_sq (i := 7) [3, 6] rfl (by kernel_rfl) (by kernel_rfl) (by kernel_rfl) rfl (wants_none rfl) rfl (sq_index 8 Try.underlying25 ti_23 rfl rfl rfl ht81) (fun q79 => ?_)
                      refine JP_sq (i := 8) [4, 7] rfl (by kernel_rfl) (by kernel_rfl) (by kernel_rfl) rfl (wants_none rfl) rfl (sq_load_pt_o 0 (opT_sl t80 hx82) ti_23 rfl rfl) (fun v83 => ?_)
                      refine JP_ctx (fun w hh => hh.tl_take 0 11 rfl rfl (tl_next hln28 ht81)) ?_
                      refine JP_go [0, 1, 2, 3, 4, 5, 6, 8, 9, 11, 12, 13, 14, 15, 16] [7, 10] rfl rfl rfl (fun w85 h1_86 hp84 => ?_)
                      refine JD_two (i := 4) (j := 9) (by kernel_rfl) ?_ ?_
                      · refine JO_q rfl (wants_none rfl) rfl (ex_load_bx 10 ti_25 rfl rfl rfl) ?_
                        refine JD_one (i := 9) (by kernel_rfl) ?_
                        refine JO_st rfl (wants_none rfl) rfl (st_buildSlice_od (vs := [v83]) (B := (t80.B ++ [])) ([y77] : List (List Int)) [1] Try.underlying25 ti_23 zi_23 rfl rfl rfl rfl rfl (fun w hh => (dwv_cons (hh.dw 1 rfl) dwv_nil))) (fun _ hk => nomatch hk) (fun b87 => ?_)
                        refine JD_bnd fun z88 hz89 => ?_
                        refine JD_one (i := 10) (by kernel_rfl) ?_
                        refine JO_st rfl (wants_none rfl) rfl (st_append_od 8 0 Try.underlying25 ti_23 zi_23 rfl bi_23 rfl rfl rfl rfl rfl rfl hz89) (sub_od 0 rfl) (fun v90 => ?_)
                        refine JD_take (i := 11) hp84 rfl (by kernel_rfl) (by kernel_rfl) (by kernel_rfl) (wants_none rfl) rfl (ex_nilCheck rfl) ?_
                        refine JD_take (i := 12) hp84 rfl (by kernel_rfl) (by kernel_rfl) (by kernel_rfl) (wants_none rfl) rfl (ex_fieldAddr fi_78_0 rfl rfl) ?_
                        refine JD_one (i := 13) (by kernel_rfl) ?_
                        refine JO_sk rfl (wants_none rfl) (sk_store_bx' 11 ti_25 rfl rfl (fun w hh => (hh.cv_od 8 rfl)) rfl rfl rfl rfl) (sub_bx 1 rfl) ?_
                        refine JD_done (by kernel_rfl) ?_
                        exact N_meet' (v90, (g33_1 ++ (t80.B ++ []))) ⟨rfl, rfl, rfl, rfl, rfl, rfl, rfl, rfl, trivial⟩ [7, 8, 9, 10, 11, 6, 12, 13, 14, 15, 16, 17] rfl rfl
                      · refine JO_st rfl (wants_none rfl) rfl (st_buildSlice_od (vs := [v83]) (B := (t80.B ++ [])) ([y77] : List (List Int)) [1] Try.underlying25 ti_23 zi_23 rfl rfl rfl rfl rfl (fun w hh => (dwv_cons (hh.dw 1 rfl) dwv_nil))) (fun _ hk => nomatch hk) (fun b91 => ?_)
                        refine JD_one (i := 4) (by kernel_rfl) ?_
                        refine JO_q rfl (wants_none rfl) rfl (ex_load_bx 11 ti_25 rfl rfl rfl) ?_
                        refine JD_bnd fun z92 hz93 => ?_
                        refine JD_one (i := 10) (by kernel_rfl) ?_
                        refine JO_st rfl (wants_none rfl) rfl (st_append_od 8 0 Try.underlying25 ti_23 zi_23 rfl bi_23 rfl rfl rfl rfl rfl rfl hz93) (sub_od 0 rfl) (fun v94 => ?_)
                        refine JD_take (i := 11) hp84 rfl (by kernel_rfl) (by kernel_rfl) (by kernel_rfl) (wants_none rfl) rfl (ex_nilCheck rfl) ?_
                        refine JD_take (i := 12) hp84 rfl (by kernel_rfl) (by kernel_rfl) (by kernel_rfl) (wants_none rfl) rfl (ex_fieldAddr fi_78_0 rfl rfl) ?_
                        refine JD_one (i := 13) (by kernel_rfl) ?_
                        refine JO_sk rfl (wants_none rfl) (sk_store_bx' 11 ti_25 rfl rfl (fun w hh => (hh.cv_od 8 rfl)) rfl rfl rfl rfl) (sub_bx 1 rfl) ?_
                        refine JD_done (by kernel_rfl) ?_
                        exact N_meet' (v94, (g33_1 ++ (t80.B ++ []))) ⟨rfl, rfl, rfl, rfl, rfl, rfl, rfl, rfl, trivial⟩ [7, 8, 9, 10, 11, 6, 12, 13, 14, 15, 16, 17] rfl rfl
                    · obtain ⟨g76_0, g76_1⟩ := g76
                      refine N_then ?_
                      refine J_seq ?_
                      refine J_region ?_
                      refine JL_q (wants_none rfl) rfl (ex_move rfl) ?_
                      refine JL_q (wants_none rfl) rfl (ex_move rfl) ?_
                      refine JL_q (wants_none rfl) rfl (ex_nilCheck rfl) ?_
                      refine JL_q (wants_none rfl) rfl (ex_fieldAddr fi_78_1 rfl rfl) ?_
                      refine JL_q (wants_none rfl) rfl (ex_load_bx 4 ti_23 rfl rfl rfl) ?_
                      refine JL_q (wants_none rfl) rfl (ex_move rfl) ?_
                      refine JL_st (wants_none rfl) rfl (st_buildSlice (vs := [.int .i64 s11.2.2.2.2.2]) ([s11.2.2.2.2.2] : List Int) Try.underlying23 ti_2 zi_2 rfl rfl rfl (fun w hh => ⟨(Rd.mk_int _ _ _), trivial⟩)) (fun b95 => ?_)
                      refine JL_bnd fun z96 hz97 => ?_
                      refine JL_st (wants_none rfl) rfl (st_append 3 Try.underlying23 ti_2 zi_2 rfl bi_2 rfl rfl rfl rfl (fun w hh => hh.src_ow 0 rfl) hz97) (fun v98 => ?_)
                      refine JL_q (wants_none rfl) rfl (ex_nilCheck rfl) ?_
                      refine JL_q (wants_none rfl) rfl (ex_fieldAddr fi_78_1 rfl rfl) ?_
                      refine JL_sk (wants_none rfl) (sk_store_bx' 5 ti_23 rfl rfl (fun w hh => (hh.cv_ow 3 rfl)) rfl rfl rfl rfl) ?_
                      refine JL_nil ?_
                      refine N_then ?_
                      refine J_seq ?_
                      refine J_cut' (S' := (List (List Int))) (G' := Value × List Nat) (fun s99 g100 => [(0, v0_), (2, .int .i64 p2), (7, .pointer (some ⟨b7, 0, none⟩)), (8, (.slice (some ⟨b73, 0, none⟩) (cpyAt z61 (w64 (s42.1 + 1)) (z61.length : Int) z69).length cap74)), (9, .int .i64 s11.2.2.2.2.2), (10, x22_0), (11, x22_2), (13, .int .i64 s32.2.2.2.2)]) (fun s99 g100 => [.rd v0_ p0, .od 23 g76_0 s75 g76_1, .ow 2 v98 z96, .od 23 g100.1 s99 g100.2, .bx b7 78 [g76_0, v98, g100.1, .bool s23], .ow 9 (.slice (some ⟨b73, 0, none⟩) (cpyAt z61 (w64 (s42.1 + 1)) (z61.length : Int) z69).length cap74) ((cpyAt z61 (w64 (s42.1 + 1)) (z61.length : Int) z69).set s42.1.toNat r39), .rd x22_0 r20.1, .rd x22_0 ts26, hld (tlB ts26 (w64 (s32.2.2.2.2 + 1))), .rd x22_2 r20.2.1, .rd x22_2 ts29, hld (tlB ts29 (w64 (s32.2.2.2.2 + 1)))]) ?_ (fun s99 g100 => ?_)
                      · refine J_draw [4, 5] (by kernel_rfl) ?_
                        refine JP_take (i := 0) [0, 1, 2, 3, 6, 7, 8, 9, 10, 11, 12] [4, 5] rfl (by kernel_rfl) (by kernel_rfl) (by kernel_rfl) rfl rfl (wants_none rfl) rfl (ex_move rfl) ?_
                        refine JP_take (i := 1) [0, 1, 2, 3, 6, 7, 8, 9, 10, 11, 12] [4, 5] rfl (by kernel_rfl) (by kernel_rfl) (by kernel_rfl) rfl rfl (wants_none rfl) rfl (ex_move rfl) ?_
                        refine JP_take (i := 2) [0, 1, 2, 3, 6, 7, 8, 9, 10, 11, 12] [4, 5] rfl (by kernel_rfl) (by kernel_rfl) (by kernel_rfl) rfl rfl (wants_none rfl) rfl (ex_nilCheck rfl) ?_
                        refine JP_take (i := 3) [0, 1, 2, 3, 6, 7, 8, 9, 10, 11, 12] [4, 5] rfl (by kernel_rfl) (by kernel_rfl) (by kernel_rfl) rfl rfl (wants_none rfl) rfl (ex_fieldAddr fi_78_2 rfl rfl) ?_
                        refine JP_take (i := 5) [0, 1, 2, 3, 6, 7, 8, 9, 10, 11, 12] [4, 5] rfl (by kernel_rfl) (by kernel_rfl) (by kernel_rfl) rfl rfl (wants_none rfl) rfl (ex_move rfl) ?_
                        refine JP_take (i := 6) [0, 1, 2, 3, 6, 7, 8, 9, 10, 11, 12] [4, 5] rfl (by kernel_rfl) (by kernel_rfl) (by kernel_rfl) rfl rfl (wants_none rfl) rfl (ex_move rfl) ?_
                        refine JP_bnd fun y101 hy102 => ?_
                        obtain ⟨t104, ht105, hx106⟩ := tl_idx hts30 hy102
                        refine JP_sq (i := 7) [4, 5] rfl (by kernel_rfl) (by kernel_rfl) (by kernel_rfl) rfl (wants_none rfl) rfl (sq_index 11 Try.underlying25 ti_23 rfl rfl rfl ht105) (fun q103 => ?_)
                        refine JP_sq (i := 8) [5, 6] rfl (by kernel_rfl) (by kernel_rfl) (by kernel_rfl) rfl (wants_none rfl) rfl (sq_load_pt_o 0 (opT_sl t104 hx106) ti_23 rfl rfl) (fun v107 => ?_)
                        refine JP_ctx (fun w hh => hh.tl_take 0 14 rfl rfl (tl_next hln31 ht105)) ?_
                        refine JP_go [0, 1, 2, 3, 4, 5, 6, 7, 10, 11, 12, 13, 14, 15, 16] [8, 9] rfl rfl rfl (fun w109 h1_110 hp108 => ?_)
                        refine JD_two (i := 4) (j := 9) (by kernel_rfl) ?_ ?_
                        · refine JO_q rfl (wants_none rfl) rfl (ex_load_bx 9 ti_25 rfl rfl rfl) ?_
                          refine JD_one (i := 9) (by kernel_rfl) ?_
                          refine JO_st rfl (wants_none rfl) rfl (st_buildSlice_od (vs := [v107]) (B := (t104.B ++ [])) ([y101] : List (List Int)) [1] Try.underlying25 ti_23 zi_23 rfl rfl rfl rfl rfl (fun w hh => (dwv_cons (hh.dw 1 rfl) dwv_nil))) (fun _ hk => nomatch hk) (fun b111 => ?_)
                          refine JD_bnd fun z112 hz113 => ?_
                          refine JD_one (i := 10) (by kernel_rfl) ?_
                          refine JO_st rfl (wants_none rfl) rfl (st_append_od 9 0 Try.underlying25 ti_23 zi_23 rfl bi_23 rfl rfl rfl rfl rfl rfl hz113) (sub_od 0 rfl) (fun v114 => ?_)
                          refine JD_take (i := 11) hp108 rfl (by kernel_rfl) (by kernel_rfl) (by kernel_rfl) (wants_none rfl) rfl (ex_nilCheck rfl) ?_
                          refine JD_take (i := 12) hp108 rfl (by kernel_rfl) (by kernel_rfl) (by kernel_rfl) (wants_none rfl) rfl (ex_fieldAddr fi_78_2 rfl rfl) ?_
                          refine JD_one (i := 13) (by kernel_rfl) ?_
                          refine JO_sk rfl (wants_none rfl) (sk_store_bx' 10 ti_25 rfl rfl (fun w hh => (hh.cv_od 9 rfl)) rfl rfl rfl rfl) (sub_bx 1 rfl) ?_
                          refine JD_done (by kernel_rfl) ?_
                          exact N_meet' (v114, (g33_4 ++ (t104.B ++ []))) ⟨rfl, rfl, rfl, rfl, rfl, rfl, rfl, rfl, trivial⟩ [6, 7, 8, 9, 10, 11, 12, 13, 14, 15, 16, 17] rfl rfl
                        · refine JO_st rfl (wants_none rfl) rfl (st_buildSlice_od (vs := [v107]) (B := (t104.B ++ [])) ([y101] : List (List Int)) [1] Try.underlying25 ti_23 zi_23 rfl rfl rfl rfl rfl (fun w hh => (dwv_cons (hh.dw 1 rfl) dwv_nil))) (fun _ hk => nomatch hk) (fun b115 => ?_)
                          refine JD_one (i := 4) (by kernel_rfl) ?_
                          refine JO_q rfl (wants_none rfl) rfl (ex_load_bx 10 ti_25 rfl rfl rfl) ?_
                          refine JD_bnd fun z116 hz117 => ?_
                          refine JD_one (i := 10) (by kernel_rfl) ?_
                          refine JO_st rfl (wants_none rfl) rfl (st_append_od 9 0 Try.underlying25 ti_23 zi_23 rfl bi_23 rfl rfl rfl rfl rfl rfl hz117) (sub_od 0 rfl) (fun v118 => ?_)
                          refine JD_take (i := 11) hp108 rfl (by kernel_rfl) (by kernel_rfl) (by kernel_rfl) (wants_none rfl) rfl (ex_nilCheck rfl) ?_
                          refine JD_take (i := 12) hp108 rfl (by kernel_rfl) (by kernel_rfl) (by kernel_rfl) (wants_none rfl) rfl (ex_fieldAddr fi_78_2 rfl rfl) ?_
                          refine JD_one (i := 13) (by kernel_rfl) ?_
                          refine JO_sk rfl (wants_none rfl) (sk_store_bx' 10 ti_25 rfl rfl (fun w hh => (hh.cv_od 9 rfl)) rfl rfl rfl rfl) (sub_bx 1 rfl) ?_
                          refine JD_done (by kernel_rfl) ?_
                          exact N_meet' (v118, (g33_4 ++ (t104.B ++ []))) ⟨rfl, rfl, rfl, rfl, rfl, rfl, rfl, rfl, trivial⟩ [6, 7, 8, 9, 10, 11, 12, 13, 14, 15, 16, 17] rfl rfl
                      · obtain ⟨g100_0, g100_1⟩ := g100
                        refine N_then ?_
                        refine J_seq ?_
                        refine J_region ?_
                        refine JL_q (wants_none rfl) rfl (ex_move rfl) ?_
                        refine JL_q (wants_none rfl) rfl (ex_nilCheck rfl) ?_
                        refine JL_q (wants_none rfl) rfl (ex_fieldAddr fi_78_0 rfl rfl) ?_
                        refine JL_q (wants_none rfl) rfl (ex_load_bx 4 ti_25 rfl rfl rfl) ?_
                        refine JL_q (wants_none rfl) rfl (ex_od 1 rfl (ex_len_ow 1 Try.underlying25 rfl rfl)) ?_
                        refine JL_q (wants_none rfl) rfl (ex_eql rfl rfl) ?_
                        refine JL_nil ?_
                        refine N_then ?_
                        refine J_if rfl (fun h119 => ?_) (fun h119 => ?_)
                        · refine J_seq ?_
                          refine J_region ?_
                          refine JL_q (wants_none rfl) rfl (ex_move rfl) ?_
                          refine JL_q (wants_none rfl) rfl (ex_nilCheck rfl) ?_
                          refine JL_q (wants_none rfl) rfl (ex_fieldAddr fi_78_3 rfl rfl) ?_
                          refine JL_sk (wants_none rfl) (sk_store_bx' 4 ti_4 rfl rfl (fun w hh => cv_bool) rfl rfl rfl rfl) ?_
                          refine JL_nil ?_
                          refine N_then ?_
                          refine J_seq ?_
                          refine J_region ?_
                          refine JL_q (wants_none rfl) rfl (ex_move rfl) ?_
                          refine JL_q (wants_none rfl) rfl (ex_assign rfl) ?_
                          refine JL_nil ?_
                          refine N_then ?_
                          refine J_ret ?_
                          refine N_block_ret ?_
                          refine N_then_ret ?_
                          refine N_round_ret ?_
                          refine N_block_ret ?_
                          refine N_then_ret ?_
                          refine N_round_ret ?_
                          refine N_then_ret ?_
                          exact N_ret1 rfl (rv_tmp rfl) (fun w hh => ⟨(g76_0, g76_1, v98, g100_0, g100_1, b7), rfl, hh.sel [1, 2, 3, 4] rfl⟩)
                        · refine J_skip ?_
                          refine N_block ?_
                          refine N_then ?_
                          refine J_region ?_
                          refine JL_q (wants_none rfl) rfl (ex_move rfl) ?_
                          refine JL_q (wants_none rfl) rfl (ex_add rfl rfl) ?_
                          refine JL_q (wants_none rfl) rfl (ex_assign rfl) ?_
                          refine JL_nil ?_
                          exact N_next' (g76_0, g76_1, v98, g100_0, g100_1, (.slice (some ⟨b73, 0, none⟩) (cpyAt z61 (w64 (s42.1 + 1)) (z61.length : Int) z69).length cap74)) ⟨rfl, rfl, rfl, rfl, rfl, rfl, rfl, rfl, trivial⟩ [0, 1, 2, 3, 4, 5, 6, 7, 8, 9, 10, 11] rfl rfl
                  · refine JO_q rfl (wants_none rfl) rfl (ex_slice_ow 1 Try.underlying140 ti_9 rfl rfl rfl rfl hz70) ?_
                    refine JD_one (i := 3) (by kernel_rfl) ?_
                    refine JO_q rfl (wants_none rfl) rfl (ex_slice_ow 1 Try.underlying140 ti_9 rfl rfl rfl rfl hz68) ?_
                    refine JD_one (i := 7) (by kernel_rfl) ?_
                    refine JO_st rfl (wants_none rfl) rfl (st_copy_at 1 rfl Try.underlying140 ti_9 rfl rfl rfl hz68 (fun w hh => hh.src_own 1 rfl hz70)) (sub_ow 0 rfl) (fun _ => ?_)
                    refine JD_done (by kernel_rfl) ?_
                    refine N_then ?_
                    refine J_seq ?_
                    refine J_region ?_
                    refine JL_q (wants_none rfl) rfl (ex_move rfl) ?_
                    refine JL_q (wants_none rfl) rfl (ex_move rfl) ?_
                    refine JL_q (wants_none rfl) rfl (ex_move rfl) ?_
                    refine JL_bnd fun y120 hy121 => ?_
                    refine JL_ow_open (v := v63) 1 rfl hy121 ?_; rintro b122 cap123 rfl
                    refine JL_q (wants_none rfl) rfl (ex_index_ow 1 Try.underlying140 ti_9 rfl rfl rfl hy121) ?_
                    refine JL_sk (wants_none rfl) (sk_store_ow 1 ti_9 rfl rfl rfl hy121 (fun w hh => (Rd.mk_str _ _ _))) ?_
                    refine JL_nil ?_
                    refine N_then ?_
                    refine J_seq ?_
                    refine J_region ?_
                    refine JL_q (wants_none rfl) rfl (ex_move rfl) ?_
                    refine JL_q (wants_none rfl) rfl (ex_assign rfl) ?_
                    refine JL_q (wants_none rfl) rfl (ex_assign rfl) ?_
                    refine JL_nil ?_
                    refine N_then ?_
                    refine J_ret ?_
                    refine N_inl2 hK41 rfl (rv_tmp rfl) (rv_tmp rfl) ?_
                    refine JL_q (wants_none rfl) rfl (ex_move rfl) ?_
                    refine JL_q (wants_none rfl) rfl (ex_extract rfl rfl) ?_
                    refine JL_q (wants_none rfl) rfl (ex_extract rfl rfl) ?_
                    refine JL_q (wants_none rfl) rfl (ex_assign rfl) ?_
                    refine JL_q (wants_none rfl) rfl (ex_assign rfl) ?_
                    refine JL_nil ?_
                    refine N_then ?_
                    refine J_seq ?_
                    refine J_region ?_
                    refine JL_q (wants_none rfl) rfl (ex_move rfl) ?_
                    refine JL_q (wants_none rfl) rfl (ex_assign rfl) ?_
                    refine JL_nil ?_
                    refine N_then ?_
                    refine J_seq ?_
                    refine J_seq ?_
                    refine J_region ?_
                    refine JL_q (wants_none rfl) rfl (ex_move rfl) ?_
                    refine JL_q (wants_none rfl) rfl (ex_not rfl) ?_
                    refine JL_nil ?_
                    refine N_then ?_
                    refine J_if_false rfl rfl ?_
                    refine J_skip ?_
                    refine N_then ?_
                    refine J_seq ?_
                    refine J_cut' (S' := (List (List Int))) (G' := Value × List Nat) (fun s124 g125 => [(0, v0_), (2, .int .i64 p2), (7, .pointer (some ⟨b7, 0, none⟩)), (8, (.slice (some ⟨b122, 0, none⟩) (cpyAt z61 (w64 (s42.1 + 1)) (z61.length : Int) z69).length cap123)), (9, .int .i64 s11.2.2.2.2.2), (10, x22_0), (11, x22_2), (13, .int .i64 s32.2.2.2.2)]) (fun s124 g125 => [.rd v0_ p0, .od 23 g125.1 s124 g125.2, .ow 2 g33_2 s32.2.1, .od 23 g33_3 s32.2.2.1 g33_4, .bx b7 78 [g125.1, g33_2, g33_3, .bool s23], .ow 9 (.slice (some ⟨b122, 0, none⟩) (cpyAt z61 (w64 (s42.1 + 1)) (z61.length : Int) z69).length cap123) ((cpyAt z61 (w64 (s42.1 + 1)) (z61.length : Int) z69).set s42.1.toNat r39), .rd x22_0 r20.1, .rd x22_0 ts26, hld (tlB ts26 (w64 (s32.2.2.2.2 + 1))), .rd x22_2 r20.2.1, .rd x22_2 ts29, hld (tlB ts29 s32.2.2.2.2)]) ?_ (fun s124 g125 => ?_)
                    · refine J_draw [3, 6] (by kernel_rfl) ?_
                      refine JP_take (i := 0) [0, 1, 2, 4, 5, 7, 8, 9, 10, 11, 12] [3, 6] rfl (by kernel_rfl) (by kernel_rfl) (by kernel_rfl) rfl rfl (wants_none rfl) rfl (ex_move rfl) ?_
                      refine JP_take (i := 1) [0, 1, 2, 4, 5, 7, 8, 9, 10, 11, 12] [3, 6] rfl (by kernel_rfl) (by kernel_rfl) (by kernel_rfl) rfl rfl (wants_none rfl) rfl (ex_move rfl) ?_
                      refine JP_take (i := 2) [0, 1, 2, 4, 5, 7, 8, 9, 10, 11, 12] [3, 6] rfl (by kernel_rfl) (by kernel_rfl) (by kernel_rfl) rfl rfl (wants_none rfl) rfl (ex_nilCheck rfl) ?_
                      refine JP_take (i := 3) [0, 1, 2, 4, 5, 7, 8, 9, 10, 11, 12] [3, 6] rfl (by kernel_rfl) (by kernel_rfl) (by kernel_rfl) rfl rfl (wants_none rfl) rfl (ex_fieldAddr fi_78_0 rfl rfl) ?_
                      refine JP_take (i := 5) [0, 1, 2, 4, 5, 7, 8, 9, 10, 11, 12] [3, 6] rfl (by kernel_rfl) (by kernel_rfl) (by kernel_rfl) rfl rfl (wants_none rfl) rfl (ex_move rfl) ?_
                      refine JP_take (i := 6) [0, 1, 2, 4, 5, 7, 8, 9, 10, 11, 12] [3, 6] rfl (by kernel_rfl) (by kernel_rfl) (by kernel_rfl) rfl rfl (wants_none rfl) rfl (ex_move rfl) ?_
                      refine JP_bnd fun y126 hy127 => ?_
                      obtain ⟨t129, ht130, hx131⟩ := tl_idx hts27 hy127
                      refine JP_sq (i := 7) [3, 6] rfl (by kernel_rfl) (by kernel_rfl) (by kernel_rfl) rfl (wants_none rfl) rfl (sq_index 8 Try.underlying25 ti_23 rfl rfl rfl ht130) (fun q128 => ?_)
                      refine JP_sq (i := 8) [4, 7] rfl (by kernel_rfl) (by kernel_rfl) (by kernel_rfl) rfl (wants_none rfl) rfl (sq_load_pt_o 0 (opT_sl t129 hx131) ti_23 rfl rfl) (fun v132 => ?_)
                      refine JP_ctx (fun w hh => hh.tl_take 0 11 rfl rfl (tl_next hln28 ht130)) ?_
                      refine JP_go [0, 1, 2, 3, 4, 5, 6, 8, 9, 11, 12, 13, 14, 15, 16] [7, 10] rfl rfl rfl (fun w134 h1_135 hp133 => ?_)
                      refine JD_two (i := 4) (j := 9) (by kernel_rfl) ?_ ?_
                      · refine JO_q rfl (wants_none rfl) rfl (ex_load_bx 10 ti_25 rfl rfl rfl) ?_
                        refine JD_one (i := 9) (by kernel_rfl) ?_
                        refine JO_st rfl (wants_none rfl) rfl (st_buildSlice_od (vs := [v132]) (B := (t129.B ++ [])) ([y126] : List (List Int)) [1] Try.underlying25 ti_23 zi_23 rfl rfl rfl rfl rfl (fun w hh => (dwv_cons (hh.dw 1 rfl) dwv_nil))) (fun _ hk => nomatch hk) (fun b136 => ?_)
                        refine JD_bnd fun z137 hz138 => ?_
                        refine JD_one (i := 10) (by kernel_rfl) ?_
                        refine JO_st rfl (wants_none rfl) rfl (st_append_od 8 0 Try.underlying25 ti_23 zi_23 rfl bi_23 rfl rfl rfl rfl rfl rfl hz138) (sub_od 0 rfl) (fun v139 => ?_)
                        refine JD_take (i := 11) hp133 rfl (by kernel_rfl) (by kernel_rfl) (by kernel_rfl) (wants_none rfl) rfl (ex_nilCheck rfl) ?_
                        refine JD_take (i := 12) hp133 rfl (by kernel_rfl) (by kernel_rfl) (by kernel_rfl) (wants_none rfl) rfl (ex_fieldAddr fi_78_0 rfl rfl) ?_
                        refine JD_one (i := 13) (by kernel_rfl) ?_
                        refine JO_sk rfl (wants_none rfl) (sk_store_bx' 11 ti_25 rfl rfl (fun w hh => (hh.cv_od 8 rfl)) rfl rfl rfl rfl) (sub_bx 1 rfl) ?_
                        refine JD_done (by kernel_rfl) ?_
                        exact N_meet' (v139, (g33_1 ++ (t129.B ++ []))) ⟨rfl, rfl, rfl, rfl, rfl, rfl, rfl, rfl, trivial⟩ [7, 8, 9, 10, 11, 6, 12, 13, 14, 15, 16, 17] rfl rfl
                      · refine JO_st rfl (wants_none rfl) rfl (st_buildSlice_od (vs := [v132]) (B := (t129.B ++ [])) ([y126] : List (List Int)) [1] Try.underlying25 ti_23 zi_23 rfl rfl rfl rfl rfl (fun w hh => (dwv_cons (hh.dw 1 rfl) dwv_nil))) (fun _ hk => nomatch hk) (fun b140 => ?_)
                        refine JD_one (i := 4) (by kernel_rfl) ?_
                        refine JO_q rfl (wants_none rfl) rfl (ex_load_bx 11 ti_25 rfl rfl rfl) ?_
                        refine JD_bnd fun z141 hz142 => ?_
                        refine JD_one (i := 10) (by kernel_rfl) ?_
                        refine JO_st rfl (wants_none rfl) rfl (st_append_od 8 0 Try.underlying25 ti_23 zi_23 rfl bi_23 rfl rfl rfl rfl rfl rfl hz142) (sub_od 0 rfl) (fun v143 => ?_)
                        refine JD_take (i := 11) hp133 rfl (by kernel_rfl) (by kernel_rfl) (by kernel_rfl) (wants_none rfl) rfl (ex_nilCheck rfl) ?_
                        refine JD_take (i := 12) hp133 rfl (by kernel_rfl) (by kernel_rfl) (by kernel_rfl) (wants_none rfl) rfl (ex_fieldAddr fi_78_0 rfl rfl) ?_
                        refine JD_one (i := 13) (by kernel_rfl) ?_
                        refine JO_sk rfl (wants_none rfl) (sk_store_bx' 11 ti_25 rfl rfl (fun w hh => (hh.cv_od 8 rfl)) rfl rfl rfl rfl) (sub_bx 1 rfl) ?_
                        refine JD_done (by kernel_rfl) ?_
                        exact N_meet' (v143, (g33_1 ++ (t129.B ++ []))) ⟨rfl, rfl, rfl, rfl, rfl, rfl, rfl, rfl, trivial⟩ [7, 8, 9, 10, 11, 6, 12, 13, 14, 15, 16, 17] rfl rfl
                    · obtain ⟨g125_0, g125_1⟩ := g125
                      refine N_then ?_
                      refine J_seq ?_
                      refine J_region ?_
                      refine JL_q (wants_none rfl) rfl (ex_move rfl) ?_
                      refine JL_q (wants_none rfl) rfl (ex_move rfl) ?_
                      refine JL_q (wants_none rfl) rfl (ex_nilCheck rfl) ?_
                      refine JL_q (wants_none rfl) rfl (ex_fieldAddr fi_78_1 rfl rfl) ?_
                      refine JL_q (wants_none rfl) rfl (ex_load_bx 4 ti_23 rfl rfl rfl) ?_
                      refine JL_q (wants_none rfl) rfl (ex_move rfl) ?_
                      refine JL_st (wants_none rfl) rfl (st_buildSlice (vs := [.int .i64 s11.2.2.2.2.2]) ([s11.2.2.2.2.2] : List Int) Try.underlying23 ti_2 zi_2 rfl rfl rfl (fun w hh => ⟨(Rd.mk_int _ _ _), trivial⟩)) (fun b144 => ?_)
                      refine JL_bnd fun z145 hz146 => ?_
                      refine JL_st (wants_none rfl) rfl (st_append 3 Try.underlying23 ti_2 zi_2 rfl bi_2 rfl rfl rfl rfl (fun w hh => hh.src_ow 0 rfl) hz146) (fun v147 => ?_)
                      refine JL_q (wants_none rfl) rfl (ex_nilCheck rfl) ?_
                      refine JL_q (wants_none rfl) rfl (ex_fieldAddr fi_78_1 rfl rfl) ?_
                      refine JL_sk (wants_none rfl) (sk_store_bx' 5 ti_23 rfl rfl (fun w hh => (hh.cv_ow 3 rfl)) rfl rfl rfl rfl) ?_
                      refine JL_nil ?_
                      refine N_then ?_
                      refine J_seq ?_
                      refine J_cut' (S' := (List (List Int))) (G' := Value × List Nat) (fun s148 g149 => [(0, v0_), (2, .int .i64 p2), (7, .pointer (some ⟨b7, 0, none⟩)), (8, (.slice (some ⟨b122, 0, none⟩) (cpyAt z61 (w64 (s42.1 + 1)) (z61.length : Int) z69).length cap123)), (9, .int .i64 s11.2.2.2.2.2), (10, x22_0), (11, x22_2), (13, .int .i64 s32.2.2.2.2)]) (fun s148 g149 => [.rd v0_ p0, .od 23 g125_0 s124 g125_1, .ow 2 v147 z145, .od 23 g149.1 s148 g149.2, .bx b7 78 [g125_0, v147, g149.1, .bool s23], .ow 9 (.slice (some ⟨b122, 0, none⟩) (cpyAt z61 (w64 (s42.1 + 1)) (z61.length : Int) z69).length cap123) ((cpyAt z61 (w64 (s42.1 + 1)) (z61.length : Int) z69).set s42.1.toNat r39), .rd x22_0 r20.1, .rd x22_0 ts26, hld (tlB ts26 (w64 (s32.2.2.2.2 + 1))), .rd x22_2 r20.2.1, .rd x22_2 ts29, hld (tlB ts29 (w64 (s32.2.2.2.2 + 1)))]) ?_ (fun s148 g149 => ?_)
                      · refine J_draw [4, 5] (by kernel_rfl) ?_
                        refine JP_take (i := 0) [0, 1, 2, 3, 6, 7, 8, 9, 10, 11, 12] [4, 5] rfl (by kernel_rfl) (by kernel_rfl) (by kernel_rfl) rfl rfl (wants_none rfl) rfl (ex_move rfl) ?_
                        refine JP_take (i := 1) [0, 1, 2, 3, 6, 7, 8, 9, 10, 11, 12] [4, 5] rfl (by kernel_rfl) (by kernel_rfl) (by kernel_rfl) rfl rfl (wants_none rfl) rfl (ex_move rfl) ?_
                        refine JP_take (i := 2) [0, 1, 2, 3, 6, 7, 8, 9, 10, 11, 12] [4, 5] rfl (by kernel_rfl) (by kernel_rfl) (by kernel_rfl) rfl rfl (wants_none rfl) rfl (ex_nilCheck rfl) ?_
                        refine JP_take (i := 3) [0, 1, 2, 3, 6, 7, 8, 9, 10, 11, 12] [4, 5] rfl (by kernel_rfl) (by kernel_rfl) (by kernel_rfl) rfl rfl (wants_none rfl) rfl (ex_fieldAddr fi_78_2 rfl rfl) ?_
                        refine JP_take (i := 5) [0, 1, 2, 3, 6, 7, 8, 9, 10, 11, 12] [4, 5] rfl (by kernel_rfl) (by kernel_rfl) (by kernel_rfl) rfl rfl (wants_none rfl) rfl (ex_move rfl) ?_
                        refine JP_take (i := 6) [0, 1, 2, 3, 6, 7, 8, 9, 10, 11, 12] [4, 5] rfl (by kernel_rfl) (by kernel_rfl) (by kernel_rfl) rfl rfl (wants_none rfl) rfl (ex_move rfl) ?_
                        refine JP_bnd fun y150 hy151 => ?_
                        obtain ⟨t153, ht154, hx155⟩ := tl_idx hts30 hy151
                        refine JP_sq (i := 7) [4, 5] rfl (by kernel_rfl) (by kernel_rfl) (by kernel_rfl) rfl (wants_none rfl) rfl (sq_index 11 Try.underlying25 ti_23 rfl rfl rfl ht154) (fun q152 => ?_)
                        refine JP_sq (i := 8) [5, 6] rfl (by kernel_rfl) (by kernel_rfl) (by kernel_rfl) rfl (wants_none rfl) rfl (sq_load_pt_o 0 (opT_sl t153 hx155) ti_23 rfl rfl) (fun v156 => ?_)
                        refine JP_ctx (fun w hh => hh.tl_take 0 14 rfl rfl (tl_next hln31 ht154)) ?_
                        refine JP_go [0, 1, 2, 3, 4, 5, 6, 7, 10, 11, 12, 13, 14, 15, 16] [8, 9] rfl rfl rfl (fun w158 h1_159 hp157 => ?_)
                        refine JD_two (i := 4) (j := 9) (by kernel_rfl) ?_ ?_
                        · refine JO_q rfl (wants_none rfl) rfl (ex_load_bx 9 ti_25 rfl rfl rfl) ?_
                          refine JD_one (i := 9) (by kernel_rfl) ?_
                          refine JO_st rfl (wants_none rfl) rfl (st_buildSlice_od (vs := [v156]) (B := (t153.B ++ [])) ([y150] : List (List Int)) [1] Try.underlying25 ti_23 zi_23 rfl rfl rfl rfl rfl (fun w hh => (dwv_cons (hh.dw 1 rfl) dwv_nil))) (fun _ hk => nomatch hk) (fun b160 => ?_)
                          refine JD_bnd fun z161 hz162 => ?_
                          refine JD_one (i := 10) (by kernel_rfl) ?_
                          refine JO_st rfl (wants_none rfl) rfl (st_append_od 9 0 Try.underlying25 ti_23 zi_23 rfl bi_23 rfl rfl rfl rfl rfl rfl hz162) (sub_od 0 rfl) (fun v163 => ?_)
                          refine JD_take (i := 11) hp157 rfl (by kernel_rfl) (by kernel_rfl) (by kernel_rfl) (wants_none rfl) rfl (ex_nilCheck rfl) ?_
                          refine JD_take (i := 12) hp157 rfl (by kernel_rfl) (by kernel_rfl) (by kernel_rfl) (wants_none rfl) rfl (ex_fieldAddr fi_78_2 rfl rfl) ?_
                          refine JD_one (i := 13) (by kernel_rfl) ?_
                          refine JO_sk rfl (wants_none rfl) (sk_store_bx' 10 ti_25 rfl rfl (fun w hh => (hh.cv_od 9 rfl)) rfl rfl rfl rfl) (sub_bx 1 rfl) ?_
                          refine JD_done (by kernel_rfl) ?_
                          exact N_meet' (v163, (g33_4 ++ (t153.B ++ []))) ⟨rfl, rfl, rfl, rfl, rfl, rfl, rfl, rfl, trivial⟩ [6, 7, 8, 9, 10, 11, 12, 13, 14, 15, 16, 17] rfl rfl
                        · refine JO_st rfl (wants_none rfl) rfl (st_buildSlice_od (vs := [v156]) (B := (t153.B ++ [])) ([y150] : List (List Int)) [1] Try.underlying25 ti_23 zi_23 rfl rfl rfl rfl rfl (fun w hh => (dwv_cons (hh.dw 1 rfl) dwv_nil))) (fun _ hk => nomatch hk) (fun b164 => ?_)
                          refine JD_one (i := 4) (by kernel_rfl) ?_
                          refine JO_q rfl (wants_none rfl) rfl (ex_load_bx 10 ti_25 rfl rfl rfl) ?_
                          refine JD_bnd fun z165 hz166 => ?_
                          refine JD_one (i := 10) (by kernel_rfl) ?_
                          refine JO_st rfl (wants_none rfl) rfl (st_append_od 9 0 Try.underlying25 ti_23 zi_23 rfl bi_23 rfl rfl rfl rfl rfl rfl hz166) (sub_od 0 rfl) (fun v167 => ?_)
                          refine JD_take (i := 11) hp157 rfl (by kernel_rfl) (by kernel_rfl) (by kernel_rfl) (wants_none rfl) rfl (ex_nilCheck rfl) ?_
                          refine JD_take (i := 12) hp157 rfl (by kernel_rfl) (by kernel_rfl) (by kernel_rfl) (wants_none rfl) rfl (ex_fieldAddr fi_78_2 rfl rfl) ?_
                          refine JD_one (i := 13) (by kernel_rfl) ?_
                          refine JO_sk rfl (wants_none rfl) (sk_store_bx' 10 ti_25 rfl rfl (fun w hh => (hh.cv_od 9 rfl)) rfl rfl rfl rfl) (sub_bx 1 rfl) ?_
                          refine JD_done (by kernel_rfl) ?_
                          exact N_meet' (v167, (g33_4 ++ (t153.B ++ []))) ⟨rfl, rfl, rfl, rfl, rfl, rfl, rfl, rfl, trivial⟩ [6, 7, 8, 9, 10, 11, 12, 13, 14, 15, 16, 17] rfl rfl
                      · obtain ⟨g149_0, g149_1⟩ := g149
                        refine N_then ?_
                        refine J_seq ?_
                        refine J_region ?_
                        refine JL_q (wants_none rfl) rfl (ex_move rfl) ?_
                        refine JL_q (wants_none rfl) rfl (ex_nilCheck rfl) ?_
                        refine JL_q (wants_none rfl) rfl (ex_fieldAddr fi_78_0 rfl rfl) ?_
                        refine JL_q (wants_none rfl) rfl (ex_load_bx 4 ti_25 rfl rfl rfl) ?_
                        refine JL_q (wants_none rfl) rfl (ex_od 1 rfl (ex_len_ow 1 Try.underlying25 rfl rfl)) ?_
                        refine JL_q (wants_none rfl) rfl (ex_eql rfl rfl) ?_
                        refine JL_nil ?_
                        refine N_then ?_
                        refine J_if rfl (fun h168 => ?_) (fun h168 => ?_)
                        · refine J_seq ?_
                          refine J_region ?_
                          refine JL_q (wants_none rfl) rfl (ex_move rfl) ?_
                          refine JL_q (wants_none rfl) rfl (ex_nilCheck rfl) ?_
                          refine JL_q (wants_none rfl) rfl (ex_fieldAddr fi_78_3 rfl rfl) ?_
                          refine JL_sk (wants_none rfl) (sk_store_bx' 4 ti_4 rfl rfl (fun w hh => cv_bool) rfl rfl rfl rfl) ?_
                          refine JL_nil ?_
                          refine N_then ?_
                          refine J_seq ?_
                          refine J_region ?_
                          refine JL_q (wants_none rfl) rfl (ex_move rfl) ?_
                          refine JL_q (wants_none rfl) rfl (ex_assign rfl) ?_
                          refine JL_nil ?_
                          refine N_then ?_
                          refine J_ret ?_
                          refine N_block_ret ?_
                          refine N_then_ret ?_
                          refine N_round_ret ?_
                          refine N_block_ret ?_
                          refine N_then_ret ?_
                          refine N_round_ret ?_
                          refine N_then_ret ?_
                          exact N_ret1 rfl (rv_tmp rfl) (fun w hh => ⟨(g125_0, g125_1, v147, g149_0, g149_1, b7), rfl, hh.sel [1, 2, 3, 4] rfl⟩)
                        · refine J_skip ?_
                          refine N_block ?_
                          refine N_then ?_
                          refine J_region ?_
                          refine JL_q (wants_none rfl) rfl (ex_move rfl) ?_
                          refine JL_q (wants_none rfl) rfl (ex_add rfl rfl) ?_
                          refine JL_q (wants_none rfl) rfl (ex_assign rfl) ?_
                          refine JL_nil ?_
                          exact N_next' (g125_0, g125_1, v147, g149_0, g149_1, (.slice (some ⟨b122, 0, none⟩) (cpyAt z61 (w64 (s42.1 + 1)) (z61.length : Int) z69).length cap123)) ⟨rfl, rfl, rfl, rfl, rfl, rfl, rfl, rfl, trivial⟩ [0, 1, 2, 3, 4, 5, 6, 7, 8, 9, 10, 11] rfl rfl
            · refine J_exit ?_
              refine N_then_exit ?_
              exact N_break' (g33_0, g33_1, g33_2, g33_3, g33_4, g33_5) ⟨rfl, rfl, rfl, rfl, rfl, rfl, rfl, rfl, trivial⟩ [0, 1, 2, 3, 4, 5, 6, 7, 8, 9, 10, 11] rfl rfl
          · obtain ⟨g33_0, g33_1, g33_2, g33_3, g33_4, g33_5⟩ := g33
            refine N_block ?_
            refine N_then ?_
            refine J_region ?_
            refine JL_q (wants_none rfl) rfl (ex_move rfl) ?_
            refine JL_q (wants_none rfl) rfl (ex_add rfl rfl) ?_
            refine JL_q (wants_none rfl) rfl (ex_assign rfl) ?_
            refine JL_nil ?_
            exact N_next' (g33_0, g33_1, g33_2, g33_3, g33_4, g33_5) ⟨rfl, rfl, rfl, rfl, rfl, trivial⟩ [0, 1, 2, 3, 4, 5] rfl rfl
    · refine J_exit ?_
      refine N_then_exit ?_
      exact N_break' (g12_0, g12_1, g12_2, g12_3, g12_4, g12_5) ⟨rfl, rfl, rfl, rfl, rfl, trivial⟩ [0, 1, 2, 3, 4, 5] rfl rfl
  · obtain ⟨g12_0, g12_1, g12_2, g12_3, g12_4, g12_5⟩ := g12
    refine N_then ?_
    refine J_seq ?_
    refine J_region ?_
    refine JL_q (wants_none rfl) rfl (ex_move rfl) ?_
    refine JL_q (wants_none rfl) rfl (ex_assign rfl) ?_
    refine JL_nil ?_
    refine N_then ?_
    refine J_ret ?_
    exact N_ret1 rfl (rv_tmp rfl) (fun w hh => ⟨(g12_0, g12_1, g12_2, g12_3, g12_4, b7), rfl, hh.sel [1, 2, 3, 4] rfl⟩)

end Go.Proofs.Ytneglngdbcefgaa
