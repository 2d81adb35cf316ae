/-
  Each function of the program computes what its plain function says: printed by program. No condition.
-/
import Derived.Test.YtfklpjdenigohaaFn
import Derived.Test.YtfklpjdenigohaaInf
import Derived.Test.YtfklpjdenigohaaCon11
namespace Go.Proofs.Ytfklpjdenigohaa
open Go Go.Tc Go.Fn
set_option linter.unusedVariables false

set_option maxHeartbeats 4000000 in
theorem c_spec_l10Is (A : Nat → Prop) (w : World) (hA : ∀ k, A k → k < w.heap.size) (v0_ : Value) (p0 : (List GRewrite)) (hp0 : Rd A w v0_ p0) (r : Bool) (hr : F_spec_l10Is p0 = some r) :
    Con Try.prog 157 [v0_] A w (fun x_ : Unit => .bool r) (fun x_ => []) := by
  refine Con_of (v := fun (r : Bool) (x_ : Unit) => .bool r) (fs := fun r x_ => []) Try.func157 rfl Try.ntmps157 rfl ((SH.start hA).start_rd rfl hp0) rfl ?_ hr
  unfold F_spec_l10Is
  refine J_seq ?_
  refine J_region ?_
  refine JL_q (wants_none rfl) rfl (ex_assign rfl) ?_
  refine JL_nil ?_
  refine N_then ?_
  refine J_seq ?_
  refine J_cut' (S' := Unit) (G' := Unit) (fun _ _ => [(0, v0_)]) (fun _ _ => [.rd v0_ p0]) ?_ (fun s1 g2 => ?_)
  · refine J_seq ?_
    refine J_region ?_
    refine JL_q (wants_none rfl) rfl (ex_move rfl) ?_
    refine JL_q (wants_none rfl) rfl (ex_len_rd 0 Try.underlying54 rfl rfl) ?_
    refine JL_q (wants_none rfl) rfl (ex_lss rfl rfl) ?_
    refine JL_q (wants_none rfl) rfl (ex_move rfl) ?_
    refine JL_cond (fun h3 => ?_) (fun h3 => ?_)
    · refine JL_passed rfl rfl rfl h3 ?_
      refine JL_passed rfl rfl rfl h3 ?_
      refine JL_passed rfl rfl rfl h3 ?_
      refine JL_q (wants_none rfl) rfl (ex_pick_true rfl h3 rfl) ?_
      refine JL_nil ?_
      refine N_then ?_
      refine J_if_true rfl rfl ?_
      refine J_seq ?_
      refine J_region ?_
      refine JL_q (wants_none rfl) rfl (ex_assign rfl) ?_
      refine JL_nil ?_
      refine N_then ?_
      refine J_ret ?_
      refine N_mid_ret ?_
      refine N_then_ret ?_
      exact N_ret1 rfl (rv_tmp rfl) (fun w hh => ⟨(), rfl, hh.sel [] rfl⟩)
    · refine JL_q (wants_some rfl rfl rfl h3) rfl (ex_move rfl) ?_
      refine JL_q (wants_some rfl rfl rfl h3) rfl (ex_len_rd 0 Try.underlying54 rfl rfl) ?_
      refine JL_q (wants_some rfl rfl rfl h3) rfl (ex_gtr rfl rfl) ?_
      refine JL_q (wants_none rfl) rfl (ex_pick_false rfl h3 rfl) ?_
      refine JL_nil ?_
      refine N_then ?_
      refine J_if rfl (fun h4 => ?_) (fun h4 => ?_)
      · refine J_seq ?_
        refine J_region ?_
        refine JL_q (wants_none rfl) rfl (ex_assign rfl) ?_
        refine JL_nil ?_
        refine N_then ?_
        refine J_ret ?_
        refine N_mid_ret ?_
        refine N_then_ret ?_
        exact N_ret1 rfl (rv_tmp rfl) (fun w hh => ⟨(), rfl, hh.sel [] rfl⟩)
      · refine J_skip ?_
        exact N_meet' () ⟨rfl, trivial⟩ [0] rfl rfl
  · refine N_then ?_
    refine J_seq ?_
    refine J_seq ?_
    refine J_region ?_
    refine JL_q (wants_none rfl) rfl (ex_assign rfl) ?_
    refine JL_nil ?_
    refine N_then ?_
    refine J_loop' (S := Int) (G := Unit) (F_spec_l10Is_L1 p0) (fun s5 _ => [(0, v0_), (3, .int .i64 s5)]) (fun s5 _ => [.rd v0_ p0]) 0 () ⟨rfl, rfl, trivial⟩ [0] rfl rfl (fun s5 g6 => ?_) (fun s5 g6 => ?_)
    · unfold F_spec_l10Is_L1
      refine J_seq ?_
      refine J_seq ?_
      refine J_region ?_
      refine JL_q (wants_none rfl) rfl (ex_move rfl) ?_
      refine JL_q (wants_none rfl) rfl (ex_move rfl) ?_
      refine JL_q (wants_none rfl) rfl (ex_len_rd 0 Try.underlying54 rfl rfl) ?_
      refine JL_q (wants_none rfl) rfl (ex_lss rfl rfl) ?_
      refine JL_nil ?_
      refine N_then ?_
      refine J_if rfl (fun h7 => ?_) (fun h7 => ?_)
      · refine J_skip ?_
        refine N_then ?_
        refine J_seq ?_
        refine J_block ?_
        refine J_seq ?_
        refine J_region ?_
        refine JL_q (wants_none rfl) rfl (ex_move rfl) ?_
        refine JL_q (wants_none rfl) rfl (ex_move rfl) ?_
        refine JL_bnd fun y8 hy9 => ?_
        refine JL_st (wants_none rfl) rfl (st_index 0 Try.underlying54 ti_107 rfl rfl rfl hy9) (fun q10 => ?_)
        refine JL_st (wants_none rfl) rfl (st_field_pt 0 (GRewrite.at_From _) fi_107_0 rfl rfl rfl) (fun q11 => ?_)
        refine JL_st (wants_none rfl) rfl (st_load_pt_o 0 (opens_sl _) ti_31 rfl rfl) (fun v12 => ?_)
        refine JL_bnd fun r13 hr14 => ?_
        refine JL_call (wants_none rfl) rfl Try.call158 rfl (Ca_of0 fun w hh => c_spec_l03Is _ w (fun _ hk => hk.elim) _ _ (hh.rd0 0 rfl) _ hr14) (fun _ => ?_)
        refine JL_q (wants_none rfl) rfl (ex_not rfl) ?_
        refine JL_q (wants_none rfl) rfl (ex_move rfl) ?_
        refine JL_cond (fun h15 => ?_) (fun h15 => ?_)
        · refine JL_passed rfl rfl rfl h15 ?_
          refine JL_passed rfl rfl rfl h15 ?_
          refine JL_passed rfl rfl rfl h15 ?_
          refine JL_passed rfl rfl rfl h15 ?_
          refine JL_passed rfl rfl rfl h15 ?_
          refine JL_passed rfl rfl rfl h15 ?_
          refine JL_passed rfl rfl rfl h15 ?_
          refine JL_q (wants_none rfl) rfl (ex_pick_true rfl h15 rfl) ?_
          refine JL_q (wants_none rfl) rfl (ex_move rfl) ?_
          refine JL_passed rfl rfl rfl rfl ?_
          refine JL_passed rfl rfl rfl rfl ?_
          refine JL_passed rfl rfl rfl rfl ?_
          refine JL_passed rfl rfl rfl rfl ?_
          refine JL_passed rfl rfl rfl rfl ?_
          refine JL_passed rfl rfl rfl rfl ?_
          refine JL_passed rfl rfl rfl rfl ?_
          refine JL_q (wants_none rfl) rfl (ex_pick_true rfl rfl rfl) ?_
          refine JL_nil ?_
          refine N_then ?_
          refine J_if_true rfl rfl ?_
          refine J_seq ?_
          refine J_region ?_
          refine JL_q (wants_none rfl) rfl (ex_assign rfl) ?_
          refine JL_nil ?_
          refine N_then ?_
          refine J_ret ?_
          refine N_block_ret ?_
          refine N_then_ret ?_
          refine N_round_ret ?_
          refine N_then_ret ?_
          exact N_ret1 rfl (rv_tmp rfl) (fun w hh => ⟨(), rfl, hh.sel [] rfl⟩)
        · refine JL_q (wants_some rfl rfl rfl h15) rfl (ex_move rfl) ?_
          refine JL_q (wants_some rfl rfl rfl h15) rfl (ex_move rfl) ?_
          refine JL_bnd fun y16 hy17 => ?_
          refine JL_st (wants_some rfl rfl rfl h15) rfl (st_index 3 Try.underlying54 ti_107 rfl rfl rfl hy17) (fun q18 => ?_)
          refine JL_st (wants_some rfl rfl rfl h15) rfl (st_field_pt 0 (GRewrite.at_To _) fi_107_1 rfl rfl rfl) (fun q19 => ?_)
          refine JL_st (wants_some rfl rfl rfl h15) rfl (st_load_pt_o 0 (opens_sl _) ti_31 rfl rfl) (fun v20 => ?_)
          refine JL_bnd fun r21 hr22 => ?_
          refine JL_call (wants_some rfl rfl rfl h15) rfl Try.call158 rfl (Ca_of0 fun w hh => c_spec_l03Is _ w (fun _ hk => hk.elim) _ _ (hh.rd0 0 rfl) _ hr22) (fun _ => ?_)
          refine JL_q (wants_some rfl rfl rfl h15) rfl (ex_not rfl) ?_
          refine JL_q (wants_none rfl) rfl (ex_pick_false rfl h15 rfl) ?_
          refine JL_q (wants_none rfl) rfl (ex_move rfl) ?_
          refine JL_cond (fun h23 => ?_) (fun h23 => ?_)
          · refine JL_passed rfl rfl rfl h23 ?_
            refine JL_passed rfl rfl rfl h23 ?_
            refine JL_passed rfl rfl rfl h23 ?_
            refine JL_passed rfl rfl rfl h23 ?_
            refine JL_passed rfl rfl rfl h23 ?_
            refine JL_passed rfl rfl rfl h23 ?_
            refine JL_passed rfl rfl rfl h23 ?_
            refine JL_q (wants_none rfl) rfl (ex_pick_true rfl h23 rfl) ?_
            refine JL_nil ?_
            refine N_then ?_
            refine J_if_true rfl rfl ?_
            refine J_seq ?_
            refine J_region ?_
            refine JL_q (wants_none rfl) rfl (ex_assign rfl) ?_
            refine JL_nil ?_
            refine N_then ?_
            refine J_ret ?_
            refine N_block_ret ?_
            refine N_then_ret ?_
            refine N_round_ret ?_
            refine N_then_ret ?_
            exact N_ret1 rfl (rv_tmp rfl) (fun w hh => ⟨(), rfl, hh.sel [] rfl⟩)
          · refine JL_q (wants_some rfl rfl rfl h23) rfl (ex_move rfl) ?_
            refine JL_q (wants_some rfl rfl rfl h23) rfl (ex_move rfl) ?_
            refine JL_bnd fun y24 hy25 => ?_
            refine JL_st (wants_some rfl rfl rfl h23) rfl (st_index 6 Try.underlying54 ti_107 rfl rfl rfl hy25) (fun q26 => ?_)
            refine JL_st (wants_some rfl rfl rfl h23) rfl (st_field_pt 0 (GRewrite.at_From _) fi_107_0 rfl rfl rfl) (fun q27 => ?_)
            refine JL_st (wants_some rfl rfl rfl h23) rfl (st_load_pt_o 0 (opens_sl _) ti_31 rfl rfl) (fun v28 => ?_)
            refine JL_q (wants_some rfl rfl rfl h23) rfl (ex_len_rd 0 Try.underlying31 rfl rfl) ?_
            refine JL_q (wants_some rfl rfl rfl h23) rfl (ex_eql rfl rfl) ?_
            refine JL_q (wants_none rfl) rfl (ex_pick_false rfl h23 rfl) ?_
            refine JL_nil ?_
            refine N_then ?_
            refine J_if rfl (fun h29 => ?_) (fun h29 => ?_)
            · refine J_seq ?_
              refine J_region ?_
              refine JL_q (wants_none rfl) rfl (ex_assign rfl) ?_
              refine JL_nil ?_
              refine N_then ?_
              refine J_ret ?_
              refine N_block_ret ?_
              refine N_then_ret ?_
              refine N_round_ret ?_
              refine N_then_ret ?_
              exact N_ret1 rfl (rv_tmp rfl) (fun w hh => ⟨(), rfl, hh.sel [] rfl⟩)
            · refine J_skip ?_
              refine N_block ?_
              refine N_then ?_
              refine J_region ?_
              refine JL_q (wants_none rfl) rfl (ex_move rfl) ?_
              refine JL_q (wants_none rfl) rfl (ex_add rfl rfl) ?_
              refine JL_q (wants_none rfl) rfl (ex_assign rfl) ?_
              refine JL_nil ?_
              exact N_next' () ⟨rfl, rfl, trivial⟩ [9] rfl rfl
      · refine J_exit ?_
        refine N_then_exit ?_
        exact N_break' () ⟨rfl, rfl, trivial⟩ [0] rfl rfl
    · refine N_then ?_
      refine J_seq ?_
      refine J_region ?_
      refine JL_q (wants_none rfl) rfl (ex_assign rfl) ?_
      refine JL_nil ?_
      refine N_then ?_
      refine J_ret ?_
      exact N_ret1 rfl (rv_tmp rfl) (fun w hh => ⟨(), rfl, hh.sel [] rfl⟩)

set_option maxHeartbeats 4000000 in
theorem c_impl_size_impl_Rewrite (A : Nat → Prop) (w : World) (hA : ∀ k, A k → k < w.heap.size) (v0_ : Value) (p0 : (List GRewrite)) (hp0 : Rd A w v0_ p0) (r : Int) (hr : F_impl_size_impl_Rewrite p0 = some r) :
    Con Try.prog 161 [v0_] A w (fun x_ : Unit => .int .i64 r) (fun x_ => []) := by
  refine Con_of (v := fun (r : Int) (x_ : Unit) => .int .i64 r) (fs := fun r x_ => []) Try.func161 rfl Try.ntmps161 rfl ((SH.start hA).start_rd rfl hp0) rfl ?_ hr
  unfold F_impl_size_impl_Rewrite
  refine J_seq ?_
  refine J_region ?_
  refine JL_q (wants_none rfl) rfl (ex_assign rfl) ?_
  refine JL_nil ?_
  refine N_then ?_
  refine J_seq ?_
  refine J_region ?_
  refine JL_q (wants_none rfl) rfl (ex_move rfl) ?_
  refine JL_q (wants_none rfl) rfl (ex_len_rd 0 Try.underlying54 rfl rfl) ?_
  refine JL_q (wants_none rfl) rfl (ex_assign rfl) ?_
  refine JL_nil ?_
  refine N_then ?_
  refine J_ret ?_
  exact N_ret1 rfl (rv_tmp rfl) (fun w hh => ⟨(), rfl, hh.sel [] rfl⟩)

end Go.Proofs.Ytfklpjdenigohaa
