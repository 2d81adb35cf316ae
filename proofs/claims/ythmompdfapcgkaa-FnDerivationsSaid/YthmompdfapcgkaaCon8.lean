/-
  Each function of the program computes what its plain function says: printed by program. No condition.
-/
import Derived.Test.YthmompdfapcgkaaFn
import Derived.Test.YthmompdfapcgkaaInf
import Derived.Test.YthmompdfapcgkaaCon1
import Derived.Test.YthmompdfapcgkaaCon4
import Derived.Test.YthmompdfapcgkaaCon5
import Derived.Test.YthmompdfapcgkaaCon6
import Derived.Test.YthmompdfapcgkaaCon7
namespace Go.Proofs.Ythmompdfapcgkaa
open Go Go.Tc Go.Fn
set_option linter.unusedVariables false

set_option maxHeartbeats 40000000 in
theorem c_impl_applyRewrite (A : Nat → Prop) (w : World) (hA : ∀ k, A k → k < w.heap.size) (v0_ : Value) (p0 : (List GRewrite)) (hp0 : Rd A w v0_ p0) (v1_ : Value) (p1 : (List Int)) (hp1 : Rd A w v1_ p1) (p2 : Int) (p3 : Int) (r : (List Int) × Int) (hr : F_impl_applyRewrite p0 p1 p2 p3 = some r) :
    Con Try.prog 96 [v0_, v1_, .int .i64 p2, .int .i64 p3] A w (fun x_ : Value × List Nat => .tuple #[x_.1, .int .i64 r.2]) (fun x_ => [.tkn x_.1 r.1 x_.2]) := by
  refine Con_of (v := fun (r : (List Int) × Int) (x_ : Value × List Nat) => .tuple #[x_.1, .int .i64 r.2]) (fs := fun r x_ => [.tkn x_.1 r.1 x_.2]) Try.func96 rfl Try.ntmps96 rfl (((SH.start hA).start_rd rfl hp0).start_rd rfl hp1) rfl ?_ hr
  unfold F_impl_applyRewrite
  refine J_seq ?_
  refine J_region ?_
  refine JL_q (wants_none rfl) rfl (ex_assign rfl) ?_
  refine JL_q (wants_none rfl) rfl (ex_assign rfl) ?_
  refine JL_nil ?_
  refine N_then ?_
  refine J_seq ?_
  refine J_cut' (S' := Unit) (G' := Unit) (fun _ _ => [(0, v0_), (1, v1_), (2, .int .i64 p2), (3, .int .i64 p3)]) (fun _ _ => [.rd v0_ p0, .rd v1_ p1]) ?_ (fun s1 g2 => ?_)
  · refine J_seq ?_
    refine J_region ?_
    refine JL_q (wants_none rfl) rfl (ex_move rfl) ?_
    refine JL_q (wants_none rfl) rfl (ex_move rfl) ?_
    refine JL_bnd fun r3 hr4 => ?_
    refine JL_call (wants_none rfl) rfl Try.call92 rfl (Ca_of0 fun w hh => c_impl_size_impl_Rewrite _ w (fun _ hk => hk.elim) _ _ (hh.rd0 1 rfl) _ hr4) (fun _ => ?_)
    refine JL_q (wants_none rfl) rfl (ex_sub rfl rfl) ?_
    refine JL_bnd fun r5 hr6 => ?_
    refine JL_call (wants_none rfl) rfl Try.call85 rfl (Ca_of0 fun w hh => c_impl_within _ w (fun _ hk => hk.elim) _ _ _ _ hr6) (fun _ => ?_)
    refine JL_q (wants_none rfl) rfl (ex_not rfl) ?_
    refine JL_q (wants_none rfl) rfl (ex_move rfl) ?_
    refine JL_cond (fun h7 => ?_) (fun h7 => ?_)
    · refine JL_passed rfl rfl rfl h7 ?_
      refine JL_passed rfl rfl rfl h7 ?_
      refine JL_passed rfl rfl rfl h7 ?_
      refine JL_passed rfl rfl rfl h7 ?_
      refine JL_passed rfl rfl rfl h7 ?_
      refine JL_q (wants_none rfl) rfl (ex_pick_true rfl h7 rfl) ?_
      refine JL_nil ?_
      refine N_then ?_
      refine J_if_true rfl rfl ?_
      refine J_seq ?_
      refine J_region ?_
      refine JL_q (wants_none rfl) rfl (ex_assign rfl) ?_
      refine JL_q (wants_none rfl) rfl (ex_assign rfl) ?_
      refine JL_nil ?_
      refine N_then ?_
      refine J_ret ?_
      refine N_mid_ret ?_
      refine N_then_ret ?_
      refine N_ctx (fun w hh => SH.ow_nil (α := Int) 2 hh) ?_
      refine N_ctx (fun w hh => hh.tokf 0 rfl rfl) ?_
      exact N_ret2 rfl (rv_tmp rfl) (rv_tmp rfl) (fun w hh => ⟨((.slice none 0 0 : Value), ((.slice none 0 0 : Value).ownBlock.toList ++ [])), rfl, hh.sel [0] rfl⟩)
    · refine JL_q (wants_some rfl rfl rfl h7) rfl (ex_move rfl) ?_
      refine JL_q (wants_some rfl rfl rfl h7) rfl (ex_move rfl) ?_
      refine JL_bnd fun r8 hr9 => ?_
      refine JL_call (wants_some rfl rfl rfl h7) rfl Try.call87 rfl (Ca_of0 fun w hh => c_impl_size_int64 _ w (fun _ hk => hk.elim) _ _ (hh.rd0 0 rfl) _ hr9) (fun _ => ?_)
      refine JL_bnd fun r10 hr11 => ?_
      refine JL_call (wants_some rfl rfl rfl h7) rfl Try.call85 rfl (Ca_of0 fun w hh => c_impl_within _ w (fun _ hk => hk.elim) _ _ _ _ hr11) (fun _ => ?_)
      refine JL_q (wants_some rfl rfl rfl h7) rfl (ex_not rfl) ?_
      refine JL_q (wants_none rfl) rfl (ex_pick_false rfl h7 rfl) ?_
      refine JL_nil ?_
      refine N_then ?_
      refine J_if rfl (fun h12 => ?_) (fun h12 => ?_)
      · refine J_seq ?_
        refine J_region ?_
        refine JL_q (wants_none rfl) rfl (ex_assign rfl) ?_
        refine JL_q (wants_none rfl) rfl (ex_assign rfl) ?_
        refine JL_nil ?_
        refine N_then ?_
        refine J_ret ?_
        refine N_mid_ret ?_
        refine N_then_ret ?_
        refine N_ctx (fun w hh => SH.ow_nil (α := Int) 2 hh) ?_
        refine N_ctx (fun w hh => hh.tokf 0 rfl rfl) ?_
        exact N_ret2 rfl (rv_tmp rfl) (rv_tmp rfl) (fun w hh => ⟨((.slice none 0 0 : Value), ((.slice none 0 0 : Value).ownBlock.toList ++ [])), rfl, hh.sel [0] rfl⟩)
      · refine J_skip ?_
        exact N_meet' () ⟨rfl, rfl, rfl, rfl, trivial⟩ [1, 0] rfl rfl
  · refine N_then ?_
    refine J_seq ?_
    refine J_region ?_
    refine JL_q (wants_none rfl) rfl (ex_move rfl) ?_
    refine JL_q (wants_none rfl) rfl (ex_move rfl) ?_
    refine JL_bnd fun y13 hy14 => ?_
    refine JL_st (wants_none rfl) rfl (st_index 0 Try.underlying42 ti_91 rfl rfl rfl hy14) (fun q15 => ?_)
    refine JL_st (wants_none rfl) rfl (st_load_pt_o 0 (GRewrite.opens _) ti_91 rfl rfl) (fun v16 => ?_)
    refine JL_st (wants_none rfl) rfl (st_alloc zi_91 rfl) (fun b17 => ?_)
    refine JL_sk (wants_none rfl) (sk_store_bx' 0 ti_91 rfl rfl (fun w hh => (cv_aggs ⟨(hh.cv 1 rfl), (hh.cv 2 rfl), trivial⟩)) rfl rfl rfl rfl) ?_
    refine JL_nil ?_
    refine N_then ?_
    refine J_seq ?_
    refine J_seq ?_
    refine J_draw [] (by kernel_rfl) ?_
    refine JP_take (i := 0) [0, 1, 2, 3, 4, 5] [] rfl (by kernel_rfl) (by kernel_rfl) (by kernel_rfl) rfl rfl (wants_none rfl) rfl (ex_move rfl) ?_
    refine JP_take (i := 1) [0, 1, 2, 3, 4, 5] [] rfl (by kernel_rfl) (by kernel_rfl) (by kernel_rfl) rfl rfl (wants_none rfl) rfl (ex_move rfl) ?_
    refine JP_bnd fun z18 hz19 => ?_
    refine JP_sq (i := 2) [] rfl (by kernel_rfl) (by kernel_rfl) (by kernel_rfl) rfl (wants_none rfl) rfl (sq_slice 5 Try.underlying23 ti_2 rfl rfl rfl rfl hz19) (fun v20 => ?_)
    refine JP_take (i := 3) [0, 1, 2, 3, 4, 5, 6] [] rfl (by kernel_rfl) (by kernel_rfl) (by kernel_rfl) rfl rfl (wants_none rfl) rfl (ex_fieldAddr fi_91_0 rfl rfl) ?_
    refine JP_take (i := 4) [0, 1, 2, 3, 4, 5, 6] [] rfl (by kernel_rfl) (by kernel_rfl) (by kernel_rfl) rfl rfl (wants_none rfl) rfl (ex_load_bx 1 ti_23 rfl rfl rfl) ?_
    refine JP_go [0, 1, 2, 3, 4, 5, 6] [] rfl rfl rfl (fun w22 h1_23 hp21 => ?_)
    refine JD_bnd fun r24 hr25 => ?_
    refine JD_one (i := 5) (by kernel_rfl) ?_
    refine JO_call rfl (wants_none rfl) rfl Try.call118 rfl (Ca_of0 fun w hh => c_impl_begins _ w (fun _ hk => hk.elim) _ _ (hh.rd0 0 rfl) _ _ (hh.rd0 2 rfl) _ hr25) (fun _ => ?_)
    refine JD_take (i := 6) hp21 rfl (by kernel_rfl) (by kernel_rfl) (by kernel_rfl) (wants_none rfl) rfl (ex_not rfl) ?_
    refine JD_done (by kernel_rfl) ?_
    refine N_then ?_
    refine J_if rfl (fun h26 => ?_) (fun h26 => ?_)
    · refine J_seq ?_
      refine J_region ?_
      refine JL_q (wants_none rfl) rfl (ex_assign rfl) ?_
      refine JL_q (wants_none rfl) rfl (ex_assign rfl) ?_
      refine JL_nil ?_
      refine N_then ?_
      refine J_ret ?_
      refine N_then_ret ?_
      refine N_ctx (fun w hh => SH.ow_nil (α := Int) 2 hh) ?_
      refine N_ctx (fun w hh => hh.tokf 0 rfl rfl) ?_
      exact N_ret2 rfl (rv_tmp rfl) (rv_tmp rfl) (fun w hh => ⟨((.slice none 0 0 : Value), ((.slice none 0 0 : Value).ownBlock.toList ++ [])), rfl, hh.sel [0] rfl⟩)
    · refine J_skip ?_
      refine N_then ?_
      refine J_seq ?_
      refine J_region ?_
      refine JL_q (wants_none rfl) rfl (ex_move rfl) ?_
      refine JL_q (wants_none rfl) rfl (ex_move rfl) ?_
      refine JL_q (wants_none rfl) rfl (ex_fieldAddr fi_91_0 rfl rfl) ?_
      refine JL_q (wants_none rfl) rfl (ex_load_bx 1 ti_23 rfl rfl rfl) ?_
      refine JL_q (wants_none rfl) rfl (ex_len_rd 2 Try.underlying23 rfl rfl) ?_
      refine JL_q (wants_none rfl) rfl (ex_fieldAddr fi_91_1 rfl rfl) ?_
      refine JL_q (wants_none rfl) rfl (ex_load_bx 1 ti_23 rfl rfl rfl) ?_
      refine JL_bnd fun r27 hr28 => ?_
      refine JL_call (wants_none rfl) rfl Try.call99 rfl (Ca_self (fun _ => rfl) fun w hh => c_impl_replaced _ w (fun _ hk => hk.elim) _ _ (hh.rd0 6 rfl) _ _ _ _ (hh.rd0 3 rfl) _ hr28) (fun x29 => ?_)
      refine JL_bnd fun r30 hr31 => ?_
      refine JL_call (wants_none rfl) rfl Try.call98 rfl (Ca_self (fun _ => rfl) fun w hh => c_impl_fitting _ w (fun _ hk => hk.elim) _ _ (hh.ow0 0 rfl) _ hr31) (fun x32 => ?_)
      refine JL_ctx (fun w hh => hh.tokf 1 rfl rfl) ?_
      refine JL_ctx (fun w hh => hh.sub_rd 2 rfl (hh.pr 1 rfl)) ?_
      refine JL_ctx (fun w hh => hh.sub_tkn 1 rfl (hh.pr 2 rfl)) ?_
      refine JL_q (wants_none rfl) rfl (ex_extract rfl rfl) ?_
      refine JL_q (wants_none rfl) rfl (ex_extract rfl rfl) ?_
      refine JL_q (wants_none rfl) rfl (ex_assign rfl) ?_
      refine JL_q (wants_none rfl) rfl (ex_assign rfl) ?_
      refine JL_nil ?_
      refine N_then ?_
      refine J_ret ?_
      exact N_ret2 rfl (rv_tmp rfl) (rv_tmp rfl) (fun w hh => ⟨(x32, ((x29 : Value).ownBlock.toList ++ [])), rfl, hh.sel [1] rfl⟩)

set_option maxHeartbeats 40000000 in
theorem c_impl_derived (A : Nat → Prop) (w : World) (hA : ∀ k, A k → k < w.heap.size) (v0_ : Value) (p0 : (List GRewrite)) (hp0 : Rd A w v0_ p0) (v1_ : Value) (p1 : (List Int)) (hp1 : Rd A w v1_ p1) (v2_ : Value) (p2 : (List (List Int))) (hp2 : Rd A w v2_ p2) (r : (List Int) × Int) (hr : F_impl_derived p0 p1 p2 = some r) :
    Con Try.prog 63 [v0_, v1_, v2_] A w (fun x_ : Value × List Nat => .tuple #[x_.1, .int .i64 r.2]) (fun x_ => [.tkn x_.1 r.1 x_.2]) := by
  refine Con_of (v := fun (r : (List Int) × Int) (x_ : Value × List Nat) => .tuple #[x_.1, .int .i64 r.2]) (fs := fun r x_ => [.tkn x_.1 r.1 x_.2]) Try.func63 rfl Try.ntmps63 rfl ((((SH.start hA).start_rd rfl hp0).start_rd rfl hp1).start_rd rfl hp2) rfl ?_ hr
  unfold F_impl_derived
  refine J_seq ?_
  refine J_region ?_
  refine JL_q (wants_none rfl) rfl (ex_assign rfl) ?_
  refine JL_q (wants_none rfl) rfl (ex_assign rfl) ?_
  refine JL_nil ?_
  refine N_then ?_
  refine J_seq ?_
  refine J_seq ?_
  refine J_region ?_
  refine JL_q (wants_none rfl) rfl (ex_move rfl) ?_
  refine JL_q (wants_none rfl) rfl (ex_len_rd 0 Try.underlying33 rfl rfl) ?_
  refine JL_q (wants_none rfl) rfl (ex_gtr rfl rfl) ?_
  refine JL_nil ?_
  refine N_then ?_
  refine J_if rfl (fun h1 => ?_) (fun h1 => ?_)
  · refine J_seq ?_
    refine J_region ?_
    refine JL_q (wants_none rfl) rfl (ex_assign rfl) ?_
    refine JL_q (wants_none rfl) rfl (ex_assign rfl) ?_
    refine JL_nil ?_
    refine N_then ?_
    refine J_ret ?_
    refine N_then_ret ?_
    refine N_ctx (fun w hh => SH.ow_nil (α := Int) 2 hh) ?_
    refine N_ctx (fun w hh => hh.tokf 0 rfl rfl) ?_
    exact N_ret2 rfl (rv_tmp rfl) (rv_tmp rfl) (fun w hh => ⟨((.slice none 0 0 : Value), ((.slice none 0 0 : Value).ownBlock.toList ++ [])), rfl, hh.sel [0] rfl⟩)
  · refine J_skip ?_
    refine N_then ?_
    refine J_seq ?_
    refine J_region ?_
    refine JL_q (wants_none rfl) rfl (ex_move rfl) ?_
    refine JL_bnd fun r2 hr3 => ?_
    refine JL_call (wants_none rfl) rfl Try.call51 rfl (Ca_self (fun _ => rfl) fun w hh => c_slices_Clone_Sint64_int64 _ w (fun _ hk => hk.elim) _ _ (hh.rd0 1 rfl) _ hr3) (fun x4 => ?_)
    refine JL_q (wants_none rfl) rfl (ex_assign rfl) ?_
    refine JL_nil ?_
    refine N_then ?_
    refine J_seq ?_
    refine J_seq ?_
    refine J_region ?_
    refine JL_q (wants_none rfl) rfl (ex_move rfl) ?_
    refine JL_q (wants_none rfl) rfl (ex_len_rd 1 Try.underlying33 rfl rfl) ?_
    refine JL_q (wants_none rfl) rfl (ex_move rfl) ?_
    refine JL_nil ?_
    refine N_then ?_
    refine J_ctx (fun w hh => hh.tokf 0 rfl rfl) ?_
    refine J_loop' (S := (List Int) × Int) (G := Value × List Nat) (F_impl_derived_L1 p0 p2) (fun s5 g6 => [(0, v0_), (8, g6.1), (18, v2_), (19, .int .i64 (p2.length : Int)), (20, .int .i64 s5.2)]) (fun s5 g6 => [.rd v0_ p0, .rd g6.1 s5.1, .tkn g6.1 s5.1 g6.2, .rd v2_ p2]) (r2, 0) (x4, ((x4 : Value).ownBlock.toList ++ [])) ⟨rfl, rfl, rfl, rfl, rfl, trivial⟩ [4, 1, 0, 2] rfl rfl (fun s5 g6 => ?_) (fun s5 g6 => ?_)
    · obtain ⟨g6_0, g6_1⟩ := g6
      unfold F_impl_derived_L1
      refine J_seq ?_
      refine J_region ?_
      refine JL_q (wants_none rfl) rfl (ex_lss rfl rfl) ?_
      refine JL_nil ?_
      refine N_then ?_
      refine J_seq ?_
      refine J_if rfl (fun h7 => ?_) (fun h7 => ?_)
      · refine J_skip ?_
        refine N_then ?_
        refine J_seq ?_
        refine J_block ?_
        refine J_seq ?_
        refine J_region ?_
        refine JL_bnd fun y8 hy9 => ?_
        refine JL_st (wants_none rfl) rfl (st_index 3 Try.underlying33 ti_23 rfl rfl rfl hy9) (fun q10 => ?_)
        refine JL_st (wants_none rfl) rfl (st_load_pt_o 0 (opens_sl _) ti_23 rfl rfl) (fun v11 => ?_)
        refine JL_q (wants_none rfl) rfl (ex_assign rfl) ?_
        refine JL_nil ?_
        refine N_then ?_
        refine J_seq ?_
        refine J_seq ?_
        refine J_region ?_
        refine JL_q (wants_none rfl) rfl (ex_move rfl) ?_
        refine JL_q (wants_none rfl) rfl (ex_len_rd 0 Try.underlying23 rfl rfl) ?_
        refine JL_q (wants_none rfl) rfl (ex_neq rfl rfl) ?_
        refine JL_nil ?_
        refine N_then ?_
        refine J_if rfl (fun h12 => ?_) (fun h12 => ?_)
        · refine J_seq ?_
          refine J_region ?_
          refine JL_q (wants_none rfl) rfl (ex_assign rfl) ?_
          refine JL_q (wants_none rfl) rfl (ex_assign rfl) ?_
          refine JL_nil ?_
          refine N_then ?_
          refine J_ret ?_
          refine N_then_ret ?_
          refine N_block_ret ?_
          refine N_then_ret ?_
          refine N_round_ret ?_
          refine N_then_ret ?_
          refine N_ctx (fun w hh => SH.ow_nil (α := Int) 2 hh) ?_
          refine N_ctx (fun w hh => hh.tokf 0 rfl rfl) ?_
          exact N_ret2 rfl (rv_tmp rfl) (rv_tmp rfl) (fun w hh => ⟨((.slice none 0 0 : Value), ((.slice none 0 0 : Value).ownBlock.toList ++ [])), rfl, hh.sel [0] rfl⟩)
        · refine J_skip ?_
          refine N_then ?_
          refine J_seq ?_
          refine J_draw [] (by kernel_rfl) ?_
          refine JP_take (i := 0) [0, 1, 2, 3, 4, 5] [] rfl (by kernel_rfl) (by kernel_rfl) (by kernel_rfl) rfl rfl (wants_none rfl) rfl (ex_move rfl) ?_
          refine JP_take (i := 1) [0, 1, 2, 3, 4, 5] [] rfl (by kernel_rfl) (by kernel_rfl) (by kernel_rfl) rfl rfl (wants_none rfl) rfl (ex_move rfl) ?_
          refine JP_take (i := 2) [0, 1, 2, 3, 4, 5] [] rfl (by kernel_rfl) (by kernel_rfl) (by kernel_rfl) rfl rfl (wants_none rfl) rfl (ex_move rfl) ?_
          refine JP_bnd fun y13 hy14 => ?_
          refine JP_sq (i := 3) [] rfl (by kernel_rfl) (by kernel_rfl) (by kernel_rfl) rfl (wants_none rfl) rfl (sq_index 0 Try.underlying23 ti_2 rfl rfl rfl hy14) (fun q15 => ?_)
          refine JP_sq (i := 4) [] rfl (by kernel_rfl) (by kernel_rfl) (by kernel_rfl) rfl (wants_none rfl) rfl (sq_load_pt_o 0 (opens_int _) ti_2 rfl rfl) (fun _ => ?_)
          refine JP_take (i := 5) [0, 1, 2, 3, 4, 5, 6] [] rfl (by kernel_rfl) (by kernel_rfl) (by kernel_rfl) rfl rfl (wants_none rfl) rfl (ex_move rfl) ?_
          refine JP_bnd fun y17 hy18 => ?_
          refine JP_sq (i := 6) [] rfl (by kernel_rfl) (by kernel_rfl) (by kernel_rfl) rfl (wants_none rfl) rfl (sq_index 1 Try.underlying23 ti_2 rfl rfl rfl hy18) (fun q19 => ?_)
          refine JP_sq (i := 7) [] rfl (by kernel_rfl) (by kernel_rfl) (by kernel_rfl) rfl (wants_none rfl) rfl (sq_load_pt_o 0 (opens_int _) ti_2 rfl rfl) (fun _ => ?_)
          refine JP_go [0, 1, 2, 3, 4, 5, 6, 7] [] rfl rfl rfl (fun w22 h1_23 hp21 => ?_)
          refine JD_bnd fun r24 hr25 => ?_
          refine JD_one (i := 8) (by kernel_rfl) ?_
          refine JO_call rfl (wants_none rfl) rfl Try.call96 rfl (Ca_self (fun _ => rfl) fun w hh => c_impl_applyRewrite _ w (fun _ hk => hk.elim) _ _ (hh.rd0 4 rfl) _ _ (hh.rd0 5 rfl) _ _ _ hr25) (fun x26 => ?_)
          obtain ⟨x26_0, x26_1⟩ := x26
          refine JD_ctx (fun w hh => hh.tkn_rd 0 rfl) (fun _ hb => hb) ?_
          refine JD_take (i := 9) hp21 rfl (by kernel_rfl) (by kernel_rfl) (by kernel_rfl) (wants_none rfl) rfl (ex_move rfl) ?_
          refine JD_take (i := 10) hp21 rfl (by kernel_rfl) (by kernel_rfl) (by kernel_rfl) (wants_none rfl) rfl (ex_extract rfl rfl) ?_
          refine JD_take (i := 11) hp21 rfl (by kernel_rfl) (by kernel_rfl) (by kernel_rfl) (wants_none rfl) rfl (ex_extract rfl rfl) ?_
          refine JD_take (i := 12) hp21 rfl (by kernel_rfl) (by kernel_rfl) (by kernel_rfl) (wants_none rfl) rfl (ex_assign rfl) ?_
          refine JD_take (i := 13) hp21 rfl (by kernel_rfl) (by kernel_rfl) (by kernel_rfl) (wants_none rfl) rfl (ex_assign rfl) ?_
          refine JD_done (by kernel_rfl) ?_
          refine N_then ?_
          refine J_seq ?_
          refine J_seq ?_
          refine J_region ?_
          refine JL_q (wants_none rfl) rfl (ex_move rfl) ?_
          refine JL_q (wants_none rfl) rfl (ex_neq rfl rfl) ?_
          refine JL_nil ?_
          refine N_then ?_
          refine J_if rfl (fun h27 => ?_) (fun h27 => ?_)
          · refine J_seq ?_
            refine J_region ?_
            refine JL_q (wants_none rfl) rfl (ex_assign rfl) ?_
            refine JL_q (wants_none rfl) rfl (ex_assign rfl) ?_
            refine JL_nil ?_
            refine N_then ?_
            refine J_ret ?_
            refine N_then_ret ?_
            refine N_block_ret ?_
            refine N_then_ret ?_
            refine N_round_ret ?_
            refine N_then_ret ?_
            refine N_ctx (fun w hh => SH.ow_nil (α := Int) 2 hh) ?_
            refine N_ctx (fun w hh => hh.tokf 0 rfl rfl) ?_
            exact N_ret2 rfl (rv_tmp rfl) (rv_tmp rfl) (fun w hh => ⟨((.slice none 0 0 : Value), ((.slice none 0 0 : Value).ownBlock.toList ++ [])), rfl, hh.sel [0] rfl⟩)
          · refine J_skip ?_
            refine N_then ?_
            refine J_region ?_
            refine JL_q (wants_none rfl) rfl (ex_move rfl) ?_
            refine JL_q (wants_none rfl) rfl (ex_assign rfl) ?_
            refine JL_nil ?_
            refine N_block ?_
            refine N_then ?_
            refine J_region ?_
            refine JL_q (wants_none rfl) rfl (ex_add rfl rfl) ?_
            refine JL_q (wants_none rfl) rfl (ex_move rfl) ?_
            refine JL_nil ?_
            exact N_next' (x26_0, x26_1) ⟨rfl, rfl, rfl, rfl, rfl, trivial⟩ [6, 0, 1, 9] rfl rfl
      · refine J_exit ?_
        refine N_then_exit ?_
        exact N_break' (g6_0, g6_1) ⟨rfl, rfl, rfl, rfl, rfl, trivial⟩ [0, 1, 2, 3] rfl rfl
    · obtain ⟨g6_0, g6_1⟩ := g6
      refine N_then ?_
      refine J_seq ?_
      refine J_region ?_
      refine JL_q (wants_none rfl) rfl (ex_move rfl) ?_
      refine JL_q (wants_none rfl) rfl (ex_assign rfl) ?_
      refine JL_q (wants_none rfl) rfl (ex_assign rfl) ?_
      refine JL_nil ?_
      refine N_then ?_
      refine J_ret ?_
      exact N_ret2 rfl (rv_tmp rfl) (rv_tmp rfl) (fun w hh => ⟨(g6_0, g6_1), rfl, hh.sel [2] rfl⟩)

set_option maxHeartbeats 40000000 in
theorem c_impl_CheckDerivation (A : Nat → Prop) (w : World) (hA : ∀ k, A k → k < w.heap.size) (v0_ : Value) (p0 : (List GRewrite)) (hp0 : Rd A w v0_ p0) (v1_ : Value) (p1 : (List Int)) (hp1 : Rd A w v1_ p1) (v2_ : Value) (p2 : (List (List Int))) (hp2 : Rd A w v2_ p2) (r : (List Int) × Int) (hr : F_impl_CheckDerivation p0 p1 p2 = some r) :
    Con Try.prog 28 [v0_, v1_, v2_] A w (fun x_ : Value × List Nat => .tuple #[x_.1, .int .i64 r.2]) (fun x_ => [.tkn x_.1 r.1 x_.2]) := by
  refine Con_of (v := fun (r : (List Int) × Int) (x_ : Value × List Nat) => .tuple #[x_.1, .int .i64 r.2]) (fs := fun r x_ => [.tkn x_.1 r.1 x_.2]) Try.func28 rfl Try.ntmps28 rfl ((((SH.start hA).start_rd rfl hp0).start_rd rfl hp1).start_rd rfl hp2) rfl ?_ hr
  unfold F_impl_CheckDerivation
  refine J_seq ?_
  refine J_region ?_
  refine JL_q (wants_none rfl) rfl (ex_assign rfl) ?_
  refine JL_q (wants_none rfl) rfl (ex_assign rfl) ?_
  refine JL_nil ?_
  refine N_then ?_
  refine J_seq ?_
  refine J_seq ?_
  refine J_region ?_
  refine JL_q (wants_none rfl) rfl (ex_move rfl) ?_
  refine JL_bnd fun r1 hr2 => ?_
  refine JL_call (wants_none rfl) rfl Try.call61 rfl (Ca_of0 fun w hh => c_impl_ValidRewrites _ w (fun _ hk => hk.elim) _ _ (hh.rd0 2 rfl) _ hr2) (fun _ => ?_)
  refine JL_q (wants_none rfl) rfl (ex_not rfl) ?_
  refine JL_q (wants_none rfl) rfl (ex_move rfl) ?_
  refine JL_cond (fun h3 => ?_) (fun h3 => ?_)
  · refine JL_passed rfl rfl rfl h3 ?_
    refine JL_passed rfl rfl rfl h3 ?_
    refine JL_passed rfl rfl rfl h3 ?_
    refine JL_q (wants_none rfl) rfl (ex_pick_true rfl h3 rfl) ?_
    refine JL_nil ?_
    refine N_then ?_
    refine J_if_true rfl rfl ?_
    refine J_seq ?_
    refine J_region ?_
    refine JL_q (wants_none rfl) rfl (ex_assign rfl) ?_
    refine JL_q (wants_none rfl) rfl (ex_assign rfl) ?_
    refine JL_nil ?_
    refine N_then ?_
    refine J_ret ?_
    refine N_then_ret ?_
    refine N_ctx (fun w hh => SH.ow_nil (α := Int) 2 hh) ?_
    refine N_ctx (fun w hh => hh.tokf 0 rfl rfl) ?_
    exact N_ret2 rfl (rv_tmp rfl) (rv_tmp rfl) (fun w hh => ⟨((.slice none 0 0 : Value), ((.slice none 0 0 : Value).ownBlock.toList ++ [])), rfl, hh.sel [0] rfl⟩)
  · refine JL_q (wants_some rfl rfl rfl h3) rfl (ex_move rfl) ?_
    refine JL_bnd fun r4 hr5 => ?_
    refine JL_call (wants_some rfl rfl rfl h3) rfl Try.call62 rfl (Ca_of0 fun w hh => c_impl_IsWord _ w (fun _ hk => hk.elim) _ _ (hh.rd0 1 rfl) _ hr5) (fun _ => ?_)
    refine JL_q (wants_some rfl rfl rfl h3) rfl (ex_not rfl) ?_
    refine JL_q (wants_none rfl) rfl (ex_pick_false rfl h3 rfl) ?_
    refine JL_nil ?_
    refine N_then ?_
    refine J_if rfl (fun h6 => ?_) (fun h6 => ?_)
    · refine J_seq ?_
      refine J_region ?_
      refine JL_q (wants_none rfl) rfl (ex_assign rfl) ?_
      refine JL_q (wants_none rfl) rfl (ex_assign rfl) ?_
      refine JL_nil ?_
      refine N_then ?_
      refine J_ret ?_
      refine N_then_ret ?_
      refine N_ctx (fun w hh => SH.ow_nil (α := Int) 2 hh) ?_
      refine N_ctx (fun w hh => hh.tokf 0 rfl rfl) ?_
      exact N_ret2 rfl (rv_tmp rfl) (rv_tmp rfl) (fun w hh => ⟨((.slice none 0 0 : Value), ((.slice none 0 0 : Value).ownBlock.toList ++ [])), rfl, hh.sel [0] rfl⟩)
    · refine J_skip ?_
      refine N_then ?_
      refine J_seq ?_
      refine J_region ?_
      refine JL_q (wants_none rfl) rfl (ex_move rfl) ?_
      refine JL_q (wants_none rfl) rfl (ex_move rfl) ?_
      refine JL_q (wants_none rfl) rfl (ex_move rfl) ?_
      refine JL_bnd fun r7 hr8 => ?_
      refine JL_call (wants_none rfl) rfl Try.call63 rfl (Ca_self (fun _ => rfl) fun w hh => c_impl_derived _ w (fun _ hk => hk.elim) _ _ (hh.rd0 2 rfl) _ _ (hh.rd0 1 rfl) _ _ (hh.rd0 0 rfl) _ hr8) (fun x9 => ?_)
      obtain ⟨x9_0, x9_1⟩ := x9
      refine JL_ctx (fun w hh => hh.tkn_rd 0 rfl) ?_
      refine JL_q (wants_none rfl) rfl (ex_extract rfl rfl) ?_
      refine JL_q (wants_none rfl) rfl (ex_extract rfl rfl) ?_
      refine JL_q (wants_none rfl) rfl (ex_assign rfl) ?_
      refine JL_q (wants_none rfl) rfl (ex_assign rfl) ?_
      refine JL_nil ?_
      refine N_then ?_
      refine J_ret ?_
      exact N_ret2 rfl (rv_tmp rfl) (rv_tmp rfl) (fun w hh => ⟨(x9_0, x9_1), rfl, hh.sel [1] rfl⟩)

set_option maxHeartbeats 40000000 in
theorem c_impl_SuccessorsOf (A : Nat → Prop) (w : World) (hA : ∀ k, A k → k < w.heap.size) (v0_ : Value) (p0 : (List GRewrite)) (hp0 : Rd A w v0_ p0) (v1_ : Value) (p1 : (List Int)) (hp1 : Rd A w v1_ p1) (r : (List (List Int)) × Int) (hr : F_impl_SuccessorsOf p0 p1 = some r) :
    Con Try.prog 29 [v0_, v1_] A w (fun x_ : Value => .tuple #[x_, .int .i64 r.2]) (fun x_ => [.ow 23 x_ r.1]) := by
  refine Con_of (v := fun (r : (List (List Int)) × Int) (x_ : Value) => .tuple #[x_, .int .i64 r.2]) (fs := fun r x_ => [.ow 23 x_ r.1]) Try.func29 rfl Try.ntmps29 rfl (((SH.start hA).start_rd rfl hp0).start_rd rfl hp1) rfl ?_ hr
  unfold F_impl_SuccessorsOf
  refine J_seq ?_
  refine J_region ?_
  refine JL_q (wants_none rfl) rfl (ex_assign rfl) ?_
  refine JL_q (wants_none rfl) rfl (ex_assign rfl) ?_
  refine JL_nil ?_
  refine N_then ?_
  refine J_seq ?_
  refine J_cut' (S' := Unit) (G' := Unit) (fun _ _ => [(0, v0_), (1, v1_)]) (fun _ _ => [.rd v0_ p0, .rd v1_ p1]) ?_ (fun s1 g2 => ?_)
  · refine J_seq ?_
    refine J_region ?_
    refine JL_q (wants_none rfl) rfl (ex_move rfl) ?_
    refine JL_bnd fun r3 hr4 => ?_
    refine JL_call (wants_none rfl) rfl Try.call61 rfl (Ca_of0 fun w hh => c_impl_ValidRewrites _ w (fun _ hk => hk.elim) _ _ (hh.rd0 1 rfl) _ hr4) (fun _ => ?_)
    refine JL_q (wants_none rfl) rfl (ex_not rfl) ?_
    refine JL_q (wants_none rfl) rfl (ex_move rfl) ?_
    refine JL_cond (fun h5 => ?_) (fun h5 => ?_)
    · refine JL_passed rfl rfl rfl h5 ?_
      refine JL_passed rfl rfl rfl h5 ?_
      refine JL_passed rfl rfl rfl h5 ?_
      refine JL_q (wants_none rfl) rfl (ex_pick_true rfl h5 rfl) ?_
      refine JL_nil ?_
      refine N_then ?_
      refine J_if_true rfl rfl ?_
      refine J_seq ?_
      refine J_region ?_
      refine JL_q (wants_none rfl) rfl (ex_assign rfl) ?_
      refine JL_q (wants_none rfl) rfl (ex_assign rfl) ?_
      refine JL_nil ?_
      refine N_then ?_
      refine J_ret ?_
      refine N_mid_ret ?_
      refine N_then_ret ?_
      refine N_ctx (fun w hh => SH.od_nil (α := (List Int)) 23 hh) ?_
      refine N_ctx (fun w hh => hh.od_ow 0 rfl) ?_
      exact N_ret2 rfl (rv_tmp rfl) (rv_tmp rfl) (fun w hh => ⟨(.slice none 0 0 : Value), rfl, hh.sel [0] rfl⟩)
    · refine JL_q (wants_some rfl rfl rfl h5) rfl (ex_move rfl) ?_
      refine JL_bnd fun r6 hr7 => ?_
      refine JL_call (wants_some rfl rfl rfl h5) rfl Try.call62 rfl (Ca_of0 fun w hh => c_impl_IsWord _ w (fun _ hk => hk.elim) _ _ (hh.rd0 0 rfl) _ hr7) (fun _ => ?_)
      refine JL_q (wants_some rfl rfl rfl h5) rfl (ex_not rfl) ?_
      refine JL_q (wants_none rfl) rfl (ex_pick_false rfl h5 rfl) ?_
      refine JL_nil ?_
      refine N_then ?_
      refine J_if rfl (fun h8 => ?_) (fun h8 => ?_)
      · refine J_seq ?_
        refine J_region ?_
        refine JL_q (wants_none rfl) rfl (ex_assign rfl) ?_
        refine JL_q (wants_none rfl) rfl (ex_assign rfl) ?_
        refine JL_nil ?_
        refine N_then ?_
        refine J_ret ?_
        refine N_mid_ret ?_
        refine N_then_ret ?_
        refine N_ctx (fun w hh => SH.od_nil (α := (List Int)) 23 hh) ?_
        refine N_ctx (fun w hh => hh.od_ow 0 rfl) ?_
        exact N_ret2 rfl (rv_tmp rfl) (rv_tmp rfl) (fun w hh => ⟨(.slice none 0 0 : Value), rfl, hh.sel [0] rfl⟩)
      · refine J_skip ?_
        exact N_meet' () ⟨rfl, rfl, trivial⟩ [1, 0] rfl rfl
  · refine N_then ?_
    refine J_seq ?_
    refine J_region ?_
    refine JL_q (wants_none rfl) rfl (ex_move rfl) ?_
    refine JL_q (wants_none rfl) rfl (ex_move rfl) ?_
    refine JL_bnd fun r9 hr10 => ?_
    refine JL_call (wants_none rfl) rfl Try.call64 rfl (Ca_self (fun _ => rfl) fun w hh => c_impl_movesOf _ w (fun _ hk => hk.elim) _ _ (hh.rd0 0 rfl) _ _ (hh.rd0 1 rfl) _ hr10) (fun x11 => ?_)
    obtain ⟨x11_0, x11_1⟩ := x11
    refine JL_q (wants_none rfl) rfl (ex_move rfl) ?_
    refine JL_q (wants_none rfl) rfl (ex_extract rfl rfl) ?_
    refine JL_q (wants_none rfl) rfl (ex_extract rfl rfl) ?_
    refine JL_q (wants_none rfl) rfl (ex_assign rfl) ?_
    refine JL_q (wants_none rfl) rfl (ex_assign rfl) ?_
    refine JL_nil ?_
    refine N_then ?_
    refine J_seq ?_
    refine J_region ?_
    refine JL_st (wants_none rfl) rfl (st_makeMap (κ := ByteArray) (ν := Bool) (enc := Value.string) (venc := Value.bool)) (fun b12 => ?_)
    refine JL_st (wants_none rfl) rfl (st_buildSlice_od (vs := []) (B := ([] : List Nat)) ([] : List (List Int)) [] Try.underlying33 ti_23 zi_23 rfl rfl rfl rfl rfl (fun w hh => dwv_nil)) (fun b13 => ?_)
    refine JL_q (wants_none rfl) rfl (ex_assign rfl) ?_
    refine JL_q (wants_none rfl) rfl (ex_assign rfl) ?_
    refine JL_nil ?_
    refine N_then ?_
    refine J_seq ?_
    refine J_seq ?_
    refine J_region ?_
    refine JL_q (wants_none rfl) rfl (ex_move rfl) ?_
    refine JL_q (wants_none rfl) rfl (ex_od 2 rfl (ex_len_ow 2 Try.underlying108 rfl rfl)) ?_
    refine JL_q (wants_none rfl) rfl (ex_move rfl) ?_
    refine JL_nil ?_
    refine N_then ?_
    refine J_ctx (fun w hh => hh.od_ow 0 rfl) ?_
    refine J_loop' (S := List (ByteArray × Bool) × (List (List Int)) × Int) (G := Value) (F_impl_SuccessorsOf_L1 r9) (fun s14 g15 => [(8, .map (some b12)), (9, g15), (29, x11_0), (30, .int .i64 (r9.1.length : Int)), (31, .int .i64 s14.2.2)]) (fun s14 g15 => [mpf Value.string Value.bool b12 s14.1, .ow 23 g15 s14.2.1, .od 100 x11_0 r9.1 x11_1]) (([] : List (ByteArray × Bool)), ([] : List (List Int)), 0) (.slice (some ⟨b13, 0, none⟩) 0 0) ⟨rfl, rfl, rfl, rfl, rfl, trivial⟩ [1, 0, 2] rfl rfl (fun s14 g15 => ?_) (fun s14 g15 => ?_)
    · unfold F_impl_SuccessorsOf_L1
      refine J_seq ?_
      refine J_region ?_
      refine JL_q (wants_none rfl) rfl (ex_lss rfl rfl) ?_
      refine JL_nil ?_
      refine N_then ?_
      refine J_seq ?_
      refine J_if rfl (fun h16 => ?_) (fun h16 => ?_)
      · refine J_skip ?_
        refine N_then ?_
        refine J_seq ?_
        refine J_block ?_
        refine J_seq ?_
        refine J_region ?_
        refine JL_bnd fun y17 hy18 => ?_
        refine JL_od_open (v := x11_0) 2 rfl hy18 ?_; rintro b19 cap20 rfl
        refine JL_q (wants_none rfl) rfl (ex_od 2 rfl (ex_index_ow 2 Try.underlying108 ti_100 rfl rfl rfl hy18)) ?_
        refine JL_st (wants_none rfl) rfl (st_od 2 rfl (st_load_ow_o 2 (Gmove.opens _) ti_100 rfl rfl hy18) (fun _ => rfl)) (fun v21 => ?_)
        refine JL_st (wants_none rfl) rfl (st_alloc zi_100 rfl) (fun b22 => ?_)
        refine JL_sk (wants_none rfl) (sk_store_bx' 0 ti_100 rfl rfl (fun w hh => (cv_aggs ⟨cv_int, cv_int, (hh.cv 1 rfl), trivial⟩)) rfl rfl rfl rfl) ?_
        refine JL_nil ?_
        refine N_then ?_
        refine J_seq ?_
        refine J_region ?_
        refine JL_q (wants_none rfl) rfl (ex_fieldAddr fi_100_2 rfl rfl) ?_
        refine JL_q (wants_none rfl) rfl (ex_load_bx 0 ti_23 rfl rfl rfl) ?_
        refine JL_bnd fun r23 hr24 => ?_
        refine JL_call (wants_none rfl) rfl Try.call59 rfl (Ca_of0 fun w hh => c_impl_keyOf _ w (fun _ hk => hk.elim) _ _ (hh.rd0 1 rfl) _ hr24) (fun _ => ?_)
        refine JL_q (wants_none rfl) rfl (ex_assign rfl) ?_
        refine JL_nil ?_
        refine N_then ?_
        refine J_seq ?_
        refine J_region ?_
        refine JL_q (wants_none rfl) rfl (ex_move rfl) ?_
        refine JL_q (wants_none rfl) rfl (ex_move rfl) ?_
        refine JL_q (wants_none rfl) rfl (ex_lookup (x := r23) (z := false) 2 key_9 Try.underlying111 zi_4 rfl rfl rfl rfl rfl) ?_
        refine JL_q (wants_none rfl) rfl (ex_not rfl) ?_
        refine JL_nil ?_
        refine N_then ?_
        refine J_if rfl (fun h25 => ?_) (fun h25 => ?_)
        · refine J_seq ?_
          refine J_region ?_
          refine JL_q (wants_none rfl) rfl (ex_move rfl) ?_
          refine JL_q (wants_none rfl) rfl (ex_move rfl) ?_
          refine JL_sk (wants_none rfl) (sk_mapUpdate (x := r23) (y := true) 2 key_9 Try.underlying111 rfl rfl rfl rfl rfl rfl rfl rfl) ?_
          refine JL_nil ?_
          refine N_then ?_
          refine J_region ?_
          refine JL_q (wants_none rfl) rfl (ex_move rfl) ?_
          refine JL_q (wants_none rfl) rfl (ex_fieldAddr fi_100_2 rfl rfl) ?_
          refine JL_q (wants_none rfl) rfl (ex_load_bx 0 ti_23 rfl rfl rfl) ?_
          refine JL_st (wants_none rfl) rfl (st_buildSlice (vs := [v21]) ([y17.word] : List (List Int)) Try.underlying33 ti_23 zi_23 rfl rfl rfl (fun w hh => ⟨(hh.rd 1 rfl), trivial⟩)) (fun b26 => ?_)
          refine JL_bnd fun z27 hz28 => ?_
          refine JL_st (wants_none rfl) rfl (st_append 4 Try.underlying33 ti_23 zi_23 rfl bi_23 rfl rfl rfl rfl (fun w hh => hh.src_ow 0 rfl) hz28) (fun v29 => ?_)
          refine JL_q (wants_none rfl) rfl (ex_assign rfl) ?_
          refine JL_nil ?_
          refine N_block ?_
          refine N_then ?_
          refine J_region ?_
          refine JL_q (wants_none rfl) rfl (ex_add rfl rfl) ?_
          refine JL_q (wants_none rfl) rfl (ex_move rfl) ?_
          refine JL_nil ?_
          exact N_next' v29 ⟨rfl, rfl, rfl, rfl, rfl, trivial⟩ [3, 4, 5] rfl rfl
        · refine J_skip ?_
          refine N_block ?_
          refine N_then ?_
          refine J_region ?_
          refine JL_q (wants_none rfl) rfl (ex_add rfl rfl) ?_
          refine JL_q (wants_none rfl) rfl (ex_move rfl) ?_
          refine JL_nil ?_
          exact N_next' g15 ⟨rfl, rfl, rfl, rfl, rfl, trivial⟩ [2, 3, 4] rfl rfl
      · refine J_exit ?_
        refine N_then_exit ?_
        exact N_break' g15 ⟨rfl, rfl, rfl, rfl, rfl, trivial⟩ [0, 1, 2] rfl rfl
    · refine N_then ?_
      refine J_seq ?_
      refine J_region ?_
      refine JL_q (wants_none rfl) rfl (ex_move rfl) ?_
      refine JL_q (wants_none rfl) rfl (ex_assign rfl) ?_
      refine JL_q (wants_none rfl) rfl (ex_assign rfl) ?_
      refine JL_nil ?_
      refine N_then ?_
      refine J_ret ?_
      exact N_ret2 rfl (rv_tmp rfl) (rv_tmp rfl) (fun w hh => ⟨g15, rfl, hh.sel [1] rfl⟩)

set_option maxHeartbeats 40000000 in
theorem c_impl_isNormalWord_1 (A : Nat → Prop) (w : World) (hA : ∀ k, A k → k < w.heap.size) (v0_ : Value) (p0 : GRewrite) (hp0 : Rd A w v0_ p0) (v1_ : Value) (p1 : (List Int)) (hp1 : RdA A w.heap.size w v1_ p1) (r : Bool) (hr : F_impl_isNormalWord_1 p0 p1 = some r) :
    Con Try.prog 100 [v0_, v1_] A w (fun x_ : Unit => .bool r) (fun x_ => []) := by
  obtain ⟨v0_0, v0_1, rfl, hp0_0, hp0_1⟩ := GRewrite.open hp0
  refine Con_of (v := fun (r : Bool) (x_ : Unit) => .bool r) (fs := fun r x_ => []) Try.func100 rfl Try.ntmps100 rfl ((((SH.start hA).start_rd rfl hp0_0).start_rd rfl hp0_1).start_pa' rfl hp1) rfl ?_ hr
  unfold F_impl_isNormalWord_1
  refine J_seq ?_
  refine J_region ?_
  refine JL_st (wants_none rfl) rfl (st_box' rfl (fun w hh => (cv_aggs ⟨(hh.cv 2 rfl), (hh.cv 1 rfl), trivial⟩))) (fun b1 => ?_)
  refine JL_q (wants_none rfl) rfl (ex_assign rfl) ?_
  refine JL_nil ?_
  refine N_then ?_
  refine J_seq ?_
  refine J_region ?_
  refine JL_st (wants_none rfl) rfl (st_load_pa_o 1 (opens_sl _) ti_23 rfl rfl) (fun v2 => ?_)
  refine JL_q (wants_none rfl) rfl (ex_fieldAddr fi_91_0 rfl rfl) ?_
  refine JL_q (wants_none rfl) rfl (ex_load_bx 1 ti_23 rfl rfl rfl) ?_
  refine JL_bnd fun r3 hr4 => ?_
  refine JL_call (wants_none rfl) rfl Try.call97 rfl (Ca_self (fun _ => rfl) fun w hh => c_impl_occurrences _ w (fun _ hk => hk.elim) _ _ (hh.rd0 0 rfl) _ _ (hh.rd0 4 rfl) _ hr4) (fun x5 => ?_)
  refine JL_q (wants_none rfl) rfl (ex_len_ow 0 Try.underlying23 rfl rfl) ?_
  refine JL_q (wants_none rfl) rfl (ex_gtr rfl rfl) ?_
  refine JL_q (wants_none rfl) rfl (ex_assign rfl) ?_
  refine JL_nil ?_
  refine N_then ?_
  refine J_ret ?_
  exact N_ret1 rfl (rv_tmp rfl) (fun w hh => ⟨(), rfl, hh.sel [] rfl⟩)

set_option maxHeartbeats 40000000 in
theorem c_impl_isNormalWord (A : Nat → Prop) (w : World) (hA : ∀ k, A k → k < w.heap.size) (v0_ : Value) (p0 : (List GRewrite)) (hp0 : Rd A w v0_ p0) (v1_ : Value) (p1 : (List Int)) (hp1 : Rd A w v1_ p1) (r : Bool) (hr : F_impl_isNormalWord p0 p1 = some r) :
    Con Try.prog 65 [v0_, v1_] A w (fun x_ : Unit => .bool r) (fun x_ => []) := by
  refine Con_of (v := fun (r : Bool) (x_ : Unit) => .bool r) (fs := fun r x_ => []) Try.func65 rfl Try.ntmps65 rfl (((SH.start hA).start_rd rfl hp0).start_rd rfl hp1) rfl ?_ hr
  unfold F_impl_isNormalWord
  refine J_seq ?_
  refine J_region ?_
  refine JL_st (wants_none rfl) rfl (st_box' rfl (fun w hh => (hh.cv 0 rfl))) (fun b1 => ?_)
  refine JL_q (wants_none rfl) rfl (ex_assign rfl) ?_
  refine JL_nil ?_
  refine N_then ?_
  refine J_seq ?_
  refine J_region ?_
  refine JL_q (wants_none rfl) rfl (ex_move rfl) ?_
  refine JL_q (wants_none rfl) rfl (ex_makeFunc rfl) ?_
  refine JL_bnd fun r2 hr3 => ?_
  refine JL_call (wants_none rfl) rfl Try.call93 rfl (Ca_of0 fun w hh => c_slices_ContainsFunc_Simpl_Rewrite_impl_Rewrite _ w (fun _ hk => hk.elim) _ _ (hh.rd0 2 rfl) _ _ (Clo.mk (caps := [.pointer (some ⟨b1, 0, none⟩)]) Try.call100 (fun w_ hb_ v_ x_ r_ hrd_ hr_ => c_impl_isNormalWord_1 nowhere w_ (fun _ hk => hk.elim) v_ x_ hrd_ _ _ ((hh.bx_pa1 0 rfl (hh.rd0 1 rfl) rfl rfl).later hb_) _ hr_)) _ hr3) (fun _ => ?_)
  refine JL_q (wants_none rfl) rfl (ex_not rfl) ?_
  refine JL_q (wants_none rfl) rfl (ex_assign rfl) ?_
  refine JL_nil ?_
  refine N_then ?_
  refine J_ret ?_
  exact N_ret1 rfl (rv_tmp rfl) (fun w hh => ⟨(), rfl, hh.sel [] rfl⟩)

set_option maxHeartbeats 40000000 in
theorem c_impl_IsNormalWord (A : Nat → Prop) (w : World) (hA : ∀ k, A k → k < w.heap.size) (v0_ : Value) (p0 : (List GRewrite)) (hp0 : Rd A w v0_ p0) (v1_ : Value) (p1 : (List Int)) (hp1 : Rd A w v1_ p1) (r : Bool) (hr : F_impl_IsNormalWord p0 p1 = some r) :
    Con Try.prog 30 [v0_, v1_] A w (fun x_ : Unit => .bool r) (fun x_ => []) := by
  refine Con_of (v := fun (r : Bool) (x_ : Unit) => .bool r) (fs := fun r x_ => []) Try.func30 rfl Try.ntmps30 rfl (((SH.start hA).start_rd rfl hp0).start_rd rfl hp1) rfl ?_ hr
  unfold F_impl_IsNormalWord
  refine J_seq ?_
  refine J_region ?_
  refine JL_q (wants_none rfl) rfl (ex_assign rfl) ?_
  refine JL_nil ?_
  refine N_then ?_
  refine J_seq ?_
  refine J_region ?_
  refine JL_q (wants_none rfl) rfl (ex_move rfl) ?_
  refine JL_bnd fun r1 hr2 => ?_
  refine JL_call (wants_none rfl) rfl Try.call61 rfl (Ca_of0 fun w hh => c_impl_ValidRewrites _ w (fun _ hk => hk.elim) _ _ (hh.rd0 1 rfl) _ hr2) (fun _ => ?_)
  refine JL_q (wants_none rfl) rfl (ex_move rfl) ?_
  refine JL_cond (fun h3 => ?_) (fun h3 => ?_)
  · refine JL_q (wants_some rfl rfl rfl h3) rfl (ex_move rfl) ?_
    refine JL_bnd fun r4 hr5 => ?_
    refine JL_call (wants_some rfl rfl rfl h3) rfl Try.call62 rfl (Ca_of0 fun w hh => c_impl_IsWord _ w (fun _ hk => hk.elim) _ _ (hh.rd0 0 rfl) _ hr5) (fun _ => ?_)
    refine JL_q (wants_none rfl) rfl (ex_pick_true rfl h3 rfl) ?_
    refine JL_q (wants_none rfl) rfl (ex_move rfl) ?_
    refine JL_cond (fun h6 => ?_) (fun h6 => ?_)
    · refine JL_q (wants_some rfl rfl rfl h6) rfl (ex_move rfl) ?_
      refine JL_q (wants_some rfl rfl rfl h6) rfl (ex_move rfl) ?_
      refine JL_bnd fun r7 hr8 => ?_
      refine JL_call (wants_some rfl rfl rfl h6) rfl Try.call65 rfl (Ca_of0 fun w hh => c_impl_isNormalWord _ w (fun _ hk => hk.elim) _ _ (hh.rd0 1 rfl) _ _ (hh.rd0 0 rfl) _ hr8) (fun _ => ?_)
      refine JL_q (wants_none rfl) rfl (ex_pick_true rfl h6 rfl) ?_
      refine JL_q (wants_none rfl) rfl (ex_assign rfl) ?_
      refine JL_nil ?_
      refine N_then ?_
      refine J_ret ?_
      exact N_ret1 rfl (rv_tmp rfl) (fun w hh => ⟨(), rfl, hh.sel [] rfl⟩)
    · refine JL_passed rfl rfl rfl h6 ?_
      refine JL_passed rfl rfl rfl h6 ?_
      refine JL_passed rfl rfl rfl h6 ?_
      refine JL_q (wants_none rfl) rfl (ex_pick_false rfl h6 rfl) ?_
      refine JL_q (wants_none rfl) rfl (ex_assign rfl) ?_
      refine JL_nil ?_
      refine N_then ?_
      refine J_ret ?_
      exact N_ret1 rfl (rv_tmp rfl) (fun w hh => ⟨(), rfl, hh.sel [] rfl⟩)
  · refine JL_passed rfl rfl rfl h3 ?_
    refine JL_passed rfl rfl rfl h3 ?_
    refine JL_q (wants_none rfl) rfl (ex_pick_false rfl h3 rfl) ?_
    refine JL_q (wants_none rfl) rfl (ex_move rfl) ?_
    refine JL_passed rfl rfl rfl rfl ?_
    refine JL_passed rfl rfl rfl rfl ?_
    refine JL_passed rfl rfl rfl rfl ?_
    refine JL_q (wants_none rfl) rfl (ex_pick_false rfl rfl rfl) ?_
    refine JL_q (wants_none rfl) rfl (ex_assign rfl) ?_
    refine JL_nil ?_
    refine N_then ?_
    refine J_ret ?_
    exact N_ret1 rfl (rv_tmp rfl) (fun w hh => ⟨(), rfl, hh.sel [] rfl⟩)

set_option maxHeartbeats 40000000 in
theorem c_laws_b10Row (A : Nat → Prop) (w : World) (hA : ∀ k, A k → k < w.heap.size) (v0_ : Value) (p0 : (List (List Int))) (hp0 : Rd A w v0_ p0) (v1_ : Value) (p1 : (List Int)) (hp1 : Rd A w v1_ p1) (r : Bool) (hr : F_laws_b10Row p0 p1 = some r) :
    Con Try.prog 31 [v0_, v1_] A w (fun x_ : Unit => .bool r) (fun x_ => []) := by
  refine Con_of (v := fun (r : Bool) (x_ : Unit) => .bool r) (fs := fun r x_ => []) Try.func31 rfl Try.ntmps31 rfl (((SH.start hA).start_rd rfl hp0).start_rd rfl hp1) rfl ?_ hr
  unfold F_laws_b10Row
  refine J_seq ?_
  refine J_region ?_
  refine JL_q (wants_none rfl) rfl (ex_assign rfl) ?_
  refine JL_nil ?_
  refine N_then ?_
  refine J_seq ?_
  refine J_seq ?_
  refine J_region ?_
  refine JL_q (wants_none rfl) rfl (ex_assign rfl) ?_
  refine JL_nil ?_
  refine N_then ?_
  refine J_loop' (S := Int) (G := Unit) (F_laws_b10Row_L1 p0 p1) (fun s1 _ => [(0, v0_), (1, v1_), (5, .int .i64 s1)]) (fun s1 _ => [.rd v0_ p0, .rd v1_ p1]) 0 () ⟨rfl, rfl, rfl, trivial⟩ [1, 0] rfl rfl (fun s1 g2 => ?_) (fun s1 g2 => ?_)
  · unfold F_laws_b10Row_L1
    refine J_seq ?_
    refine J_seq ?_
    refine J_region ?_
    refine JL_q (wants_none rfl) rfl (ex_move rfl) ?_
    refine JL_q (wants_none rfl) rfl (ex_move rfl) ?_
    refine JL_q (wants_none rfl) rfl (ex_len_rd 0 Try.underlying33 rfl rfl) ?_
    refine JL_q (wants_none rfl) rfl (ex_lss rfl rfl) ?_
    refine JL_nil ?_
    refine N_then ?_
    refine J_if rfl (fun h3 => ?_) (fun h3 => ?_)
    · refine J_skip ?_
      refine N_then ?_
      refine J_seq ?_
      refine J_block ?_
      refine J_seq ?_
      refine J_region ?_
      refine JL_q (wants_none rfl) rfl (ex_move rfl) ?_
      refine JL_q (wants_none rfl) rfl (ex_move rfl) ?_
      refine JL_bnd fun y4 hy5 => ?_
      refine JL_st (wants_none rfl) rfl (st_index 0 Try.underlying33 ti_23 rfl rfl rfl hy5) (fun q6 => ?_)
      refine JL_st (wants_none rfl) rfl (st_load_pt_o 0 (opens_sl _) ti_23 rfl rfl) (fun v7 => ?_)
      refine JL_q (wants_none rfl) rfl (ex_move rfl) ?_
      refine JL_bnd fun r8 hr9 => ?_
      refine JL_call (wants_none rfl) rfl Try.call25 rfl (Ca_of0 fun w hh => c_laws_b10Nums _ w (fun _ hk => hk.elim) _ _ (hh.rd0 0 rfl) _ _ (hh.rd0 3 rfl) _ hr9) (fun _ => ?_)
      refine JL_nil ?_
      refine N_then ?_
      refine J_if rfl (fun h10 => ?_) (fun h10 => ?_)
      · refine J_seq ?_
        refine J_region ?_
        refine JL_q (wants_none rfl) rfl (ex_assign rfl) ?_
        refine JL_nil ?_
        refine N_then ?_
        refine J_ret ?_
        refine N_block_ret ?_
        refine N_then_ret ?_
        refine N_round_ret ?_
        refine N_then_ret ?_
        exact N_ret1 rfl (rv_tmp rfl) (fun w hh => ⟨(), rfl, hh.sel [] rfl⟩)
      · refine J_skip ?_
        refine N_block ?_
        refine N_then ?_
        refine J_region ?_
        refine JL_q (wants_none rfl) rfl (ex_move rfl) ?_
        refine JL_q (wants_none rfl) rfl (ex_add rfl rfl) ?_
        refine JL_q (wants_none rfl) rfl (ex_assign rfl) ?_
        refine JL_nil ?_
        exact N_next' () ⟨rfl, rfl, rfl, trivial⟩ [2, 3] rfl rfl
    · refine J_exit ?_
      refine N_then_exit ?_
      exact N_break' () ⟨rfl, rfl, rfl, trivial⟩ [0, 1] rfl rfl
  · refine N_then ?_
    refine J_seq ?_
    refine J_region ?_
    refine JL_q (wants_none rfl) rfl (ex_assign rfl) ?_
    refine JL_nil ?_
    refine N_then ?_
    refine J_ret ?_
    exact N_ret1 rfl (rv_tmp rfl) (fun w hh => ⟨(), rfl, hh.sel [] rfl⟩)

set_option maxHeartbeats 40000000 in
theorem c_laws_FnDerivations (A : Nat → Prop) (w : World) (hA : ∀ k, A k → k < w.heap.size) (v0_ : Value) (p0 : (List (Ik .u8))) (hp0 : Rd A w v0_ p0) (v1_ : Value) (p1 : (List (Ik .u8))) (hp1 : Rd A w v1_ p1) (r : Bool) (hr : F_laws_FnDerivations p0 p1 = some r) :
    Con Try.prog 5 [v0_, v1_] A w (fun x_ : Unit => .bool r) (fun x_ => []) := by
  refine Con_of (v := fun (r : Bool) (x_ : Unit) => .bool r) (fs := fun r x_ => []) Try.func5 rfl Try.ntmps5 rfl (((SH.start hA).start_rd rfl hp0).start_rd rfl hp1) rfl ?_ hr
  unfold F_laws_FnDerivations
  refine J_seq ?_
  refine J_region ?_
  refine JL_q (wants_none rfl) rfl (ex_assign rfl) ?_
  refine JL_nil ?_
  refine N_then ?_
  refine J_seq ?_
  refine J_cut' (S' := Unit) (G' := Unit) (fun _ _ => [(0, v0_), (1, v1_)]) (fun _ _ => [.rd v0_ p0, .rd v1_ p1]) ?_ (fun s1 g2 => ?_)
  · refine J_seq ?_
    refine J_region ?_
    refine JL_q (wants_none rfl) rfl (ex_move rfl) ?_
    refine JL_bnd fun r3 hr4 => ?_
    refine JL_call (wants_none rfl) rfl Try.call22 rfl (Ca_of0 fun w hh => c_laws_b10Long _ w (fun _ hk => hk.elim) _ _ (hh.rd0 1 rfl) _ hr4) (fun _ => ?_)
    refine JL_q (wants_none rfl) rfl (ex_move rfl) ?_
    refine JL_cond (fun h5 => ?_) (fun h5 => ?_)
    · refine JL_passed rfl rfl rfl h5 ?_
      refine JL_passed rfl rfl rfl h5 ?_
      refine JL_q (wants_none rfl) rfl (ex_pick_true rfl h5 rfl) ?_
      refine JL_nil ?_
      refine N_then ?_
      refine J_if_true rfl rfl ?_
      refine J_seq ?_
      refine J_region ?_
      refine JL_q (wants_none rfl) rfl (ex_assign rfl) ?_
      refine JL_nil ?_
      refine N_then ?_
      refine J_ret ?_
      refine N_mid_ret ?_
      refine N_then_ret ?_
      exact N_ret1 rfl (rv_tmp rfl) (fun w hh => ⟨(), rfl, hh.sel [] rfl⟩)
    · refine JL_q (wants_some rfl rfl rfl h5) rfl (ex_move rfl) ?_
      refine JL_bnd fun r6 hr7 => ?_
      refine JL_call (wants_some rfl rfl rfl h5) rfl Try.call22 rfl (Ca_of0 fun w hh => c_laws_b10Long _ w (fun _ hk => hk.elim) _ _ (hh.rd0 0 rfl) _ hr7) (fun _ => ?_)
      refine JL_q (wants_none rfl) rfl (ex_pick_false rfl h5 rfl) ?_
      refine JL_nil ?_
      refine N_then ?_
      refine J_if rfl (fun h8 => ?_) (fun h8 => ?_)
      · refine J_seq ?_
        refine J_region ?_
        refine JL_q (wants_none rfl) rfl (ex_assign rfl) ?_
        refine JL_nil ?_
        refine N_then ?_
        refine J_ret ?_
        refine N_mid_ret ?_
        refine N_then_ret ?_
        exact N_ret1 rfl (rv_tmp rfl) (fun w hh => ⟨(), rfl, hh.sel [] rfl⟩)
      · refine J_skip ?_
        exact N_meet' () ⟨rfl, rfl, trivial⟩ [1, 0] rfl rfl
  · refine N_then ?_
    refine J_seq ?_
    refine J_region ?_
    refine JL_q (wants_none rfl) rfl (ex_move rfl) ?_
    refine JL_bnd fun r9 hr10 => ?_
    refine JL_call (wants_none rfl) rfl Try.call23 rfl (Ca_self (fun _ => rfl) fun w hh => c_spec_B10Rules _ w (fun _ hk => hk.elim) _ _ (hh.rd0 0 rfl) _ hr10) (fun x11 => ?_)
    obtain ⟨x11_0, x11_1, x11_2⟩ := x11
    refine JL_ctx (fun w hh => hh.tkn_rd 0 rfl) ?_
    refine JL_q (wants_none rfl) rfl (ex_move rfl) ?_
    refine JL_q (wants_none rfl) rfl (ex_extract rfl rfl) ?_
    refine JL_q (wants_none rfl) rfl (ex_extract rfl rfl) ?_
    refine JL_q (wants_none rfl) rfl (ex_assign rfl) ?_
    refine JL_q (wants_none rfl) rfl (ex_assign rfl) ?_
    refine JL_nil ?_
    refine N_then ?_
    refine J_seq ?_
    refine J_region ?_
    refine JL_q (wants_none rfl) rfl (ex_move rfl) ?_
    refine JL_q (wants_none rfl) rfl (ex_move rfl) ?_
    refine JL_bnd fun r12 hr13 => ?_
    refine JL_ctx (fun w hh => hh.tokf 2 rfl rfl) ?_
    refine JL_call (wants_none rfl) rfl Try.call24 rfl (Ca_of (fun _ => rfl) fun w hh => c_impl_ReachWords _ w hh.av' _ _ (hh.rd 1 rfl) _ _ (hh.rd 3 rfl) _ _ hr13) (fun x14 => ?_)
    refine JL_q (wants_none rfl) rfl (ex_move rfl) ?_
    refine JL_q (wants_none rfl) rfl (ex_extract rfl rfl) ?_
    refine JL_q (wants_none rfl) rfl (ex_extract rfl rfl) ?_
    refine JL_q (wants_none rfl) rfl (ex_extract rfl rfl) ?_
    refine JL_q (wants_none rfl) rfl (ex_assign rfl) ?_
    refine JL_q (wants_none rfl) rfl (ex_assign rfl) ?_
    refine JL_q (wants_none rfl) rfl (ex_assign rfl) ?_
    refine JL_nil ?_
    refine N_then ?_
    refine J_seq ?_
    refine J_cut' (S' := Unit) (G' := Unit) (fun _ _ => [(1, v1_), (5, x11_0), (6, x11_2), (7, x14), (8, .bool r12.2.1)]) (fun _ _ => [.rd v1_ p1, .rd x11_0 r9.1, .tkn x11_0 r9.1 x11_1, .rd x11_2 r9.2, .tkn x11_2 r9.2 ((x11_2 : Value).ownBlock.toList ++ []), .ow 23 x14 r12.1]) ?_ (fun s15 g16 => ?_)
    · refine J_seq ?_
      refine J_region ?_
      refine JL_q (wants_none rfl) rfl (ex_move rfl) ?_
      refine JL_q (wants_none rfl) rfl (ex_neq rfl rfl) ?_
      refine JL_q (wants_none rfl) rfl (ex_move rfl) ?_
      refine JL_cond (fun h17 => ?_) (fun h17 => ?_)
      · refine JL_passed rfl rfl rfl h17 ?_
        refine JL_passed rfl rfl rfl h17 ?_
        refine JL_passed rfl rfl rfl h17 ?_
        refine JL_q (wants_none rfl) rfl (ex_pick_true rfl h17 rfl) ?_
        refine JL_q (wants_none rfl) rfl (ex_move rfl) ?_
        refine JL_passed rfl rfl rfl rfl ?_
        refine JL_passed rfl rfl rfl rfl ?_
        refine JL_passed rfl rfl rfl rfl ?_
        refine JL_passed rfl rfl rfl rfl ?_
        refine JL_passed rfl rfl rfl rfl ?_
        refine JL_passed rfl rfl rfl rfl ?_
        refine JL_q (wants_none rfl) rfl (ex_pick_true rfl rfl rfl) ?_
        refine JL_nil ?_
        refine N_then ?_
        refine J_if_true rfl rfl ?_
        refine J_seq ?_
        refine J_region ?_
        refine JL_q (wants_none rfl) rfl (ex_assign rfl) ?_
        refine JL_nil ?_
        refine N_then ?_
        refine J_ret ?_
        refine N_mid_ret ?_
        refine N_then_ret ?_
        exact N_ret1 rfl (rv_tmp rfl) (fun w hh => ⟨(), rfl, hh.sel [] rfl⟩)
      · refine JL_q (wants_some rfl rfl rfl h17) rfl (ex_move rfl) ?_
        refine JL_q (wants_some rfl rfl rfl h17) rfl (ex_len_ow 0 Try.underlying33 rfl rfl) ?_
        refine JL_q (wants_some rfl rfl rfl h17) rfl (ex_eql rfl rfl) ?_
        refine JL_q (wants_none rfl) rfl (ex_pick_false rfl h17 rfl) ?_
        refine JL_q (wants_none rfl) rfl (ex_move rfl) ?_
        refine JL_cond (fun h18 => ?_) (fun h18 => ?_)
        · refine JL_passed rfl rfl rfl h18 ?_
          refine JL_passed rfl rfl rfl h18 ?_
          refine JL_passed rfl rfl rfl h18 ?_
          refine JL_passed rfl rfl rfl h18 ?_
          refine JL_passed rfl rfl rfl h18 ?_
          refine JL_passed rfl rfl rfl h18 ?_
          refine JL_q (wants_none rfl) rfl (ex_pick_true rfl h18 rfl) ?_
          refine JL_nil ?_
          refine N_then ?_
          refine J_if_true rfl rfl ?_
          refine J_seq ?_
          refine J_region ?_
          refine JL_q (wants_none rfl) rfl (ex_assign rfl) ?_
          refine JL_nil ?_
          refine N_then ?_
          refine J_ret ?_
          refine N_mid_ret ?_
          refine N_then_ret ?_
          exact N_ret1 rfl (rv_tmp rfl) (fun w hh => ⟨(), rfl, hh.sel [] rfl⟩)
        · refine JL_q (wants_some rfl rfl rfl h18) rfl (ex_move rfl) ?_
          refine JL_bnd fun y19 hy20 => ?_
          refine JL_ow_open (v := x14) 0 rfl hy20 ?_; rintro b21 cap22 rfl
          refine JL_q (wants_some rfl rfl rfl h18) rfl (ex_index_ow 0 Try.underlying33 ti_23 rfl rfl rfl hy20) ?_
          refine JL_st (wants_some rfl rfl rfl h18) rfl (st_load_ow_o 0 (opens_sl _) ti_23 rfl rfl hy20) (fun v23 => ?_)
          refine JL_q (wants_some rfl rfl rfl h18) rfl (ex_move rfl) ?_
          refine JL_bnd fun r24 hr25 => ?_
          refine JL_call (wants_some rfl rfl rfl h18) rfl Try.call25 rfl (Ca_of0 fun w hh => c_laws_b10Nums _ w (fun _ hk => hk.elim) _ _ (hh.rd0 0 rfl) _ _ (hh.rd0 5 rfl) _ hr25) (fun _ => ?_)
          refine JL_q (wants_some rfl rfl rfl h18) rfl (ex_not rfl) ?_
          refine JL_q (wants_none rfl) rfl (ex_pick_false rfl h18 rfl) ?_
          refine JL_nil ?_
          refine N_then ?_
          refine J_if rfl (fun h26 => ?_) (fun h26 => ?_)
          · refine J_seq ?_
            refine J_region ?_
            refine JL_q (wants_none rfl) rfl (ex_assign rfl) ?_
            refine JL_nil ?_
            refine N_then ?_
            refine J_ret ?_
            refine N_mid_ret ?_
            refine N_then_ret ?_
            exact N_ret1 rfl (rv_tmp rfl) (fun w hh => ⟨(), rfl, hh.sel [] rfl⟩)
          · refine J_skip ?_
            exact N_meet' () ⟨rfl, rfl, rfl, rfl, rfl, trivial⟩ [7, 3, 4, 5, 2, 1] rfl rfl
    · refine N_then ?_
      refine J_seq ?_
      refine J_region ?_
      refine JL_q (wants_none rfl) rfl (ex_move rfl) ?_
      refine JL_q (wants_none rfl) rfl (ex_move rfl) ?_
      refine JL_q (wants_none rfl) rfl (ex_len_ow 5 Try.underlying33 rfl rfl) ?_
      refine JL_bnd fun r27 hr28 => ?_
      refine JL_call (wants_none rfl) rfl Try.call26 rfl (Ca_of0 fun w hh => c_laws_b10At _ w (fun _ hk => hk.elim) _ _ (hh.rd0 0 rfl) _ _ _ hr28) (fun _ => ?_)
      refine JL_q (wants_none rfl) rfl (ex_assign rfl) ?_
      refine JL_nil ?_
      refine N_then ?_
      refine J_seq ?_
      refine J_region ?_
      refine JL_q (wants_none rfl) rfl (ex_move rfl) ?_
      refine JL_q (wants_none rfl) rfl (ex_move rfl) ?_
      refine JL_q (wants_none rfl) rfl (ex_move rfl) ?_
      refine JL_q (wants_none rfl) rfl (ex_move rfl) ?_
      refine JL_bnd fun y29 hy30 => ?_
      refine JL_ow_open (v := x14) 5 rfl hy30 ?_; rintro b31 cap32 rfl
      refine JL_q (wants_none rfl) rfl (ex_index_ow 5 Try.underlying33 ti_23 rfl rfl rfl hy30) ?_
      refine JL_st (wants_none rfl) rfl (st_load_ow_o 5 (opens_sl _) ti_23 rfl rfl hy30) (fun v33 => ?_)
      refine JL_bnd fun r34 hr35 => ?_
      refine JL_call (wants_none rfl) rfl Try.call27 rfl (Ca_self (fun _ => rfl) fun w hh => c_impl_DerivationOf _ w (fun _ hk => hk.elim) _ _ (hh.rd0 2 rfl) _ _ (hh.rd0 4 rfl) _ _ (hh.rd0 0 rfl) _ _ hr35) (fun x36 => ?_)
      obtain ⟨x36_0, x36_1⟩ := x36
      refine JL_q (wants_none rfl) rfl (ex_move rfl) ?_
      refine JL_q (wants_none rfl) rfl (ex_extract rfl rfl) ?_
      refine JL_q (wants_none rfl) rfl (ex_extract rfl rfl) ?_
      refine JL_q (wants_none rfl) rfl (ex_assign rfl) ?_
      refine JL_q (wants_none rfl) rfl (ex_assign rfl) ?_
      refine JL_nil ?_
      refine N_then ?_
      refine J_seq ?_
      refine J_seq ?_
      refine J_region ?_
      refine JL_q (wants_none rfl) rfl (ex_move rfl) ?_
      refine JL_q (wants_none rfl) rfl (ex_neq rfl rfl) ?_
      refine JL_nil ?_
      refine N_then ?_
      refine J_if rfl (fun h37 => ?_) (fun h37 => ?_)
      · refine J_seq ?_
        refine J_cut' (S' := Bool) (G' := Unit) (fun s38 _ => [(4, .bool s38)]) (fun s38 _ => []) ?_ (fun s38 g39 => ?_)
        · refine J_region ?_
          refine JL_q (wants_none rfl) rfl (ex_move rfl) ?_
          refine JL_q (wants_none rfl) rfl (ex_eql rfl rfl) ?_
          refine JL_q (wants_none rfl) rfl (ex_move rfl) ?_
          refine JL_cond (fun h40 => ?_) (fun h40 => ?_)
          · refine JL_q (wants_some rfl rfl rfl h40) rfl (ex_move rfl) ?_
            refine JL_q (wants_some rfl rfl rfl h40) rfl (ex_len_ow 7 Try.underlying33 rfl rfl) ?_
            refine JL_q (wants_some rfl rfl rfl h40) rfl (ex_gtr rfl rfl) ?_
            refine JL_q (wants_none rfl) rfl (ex_pick_true rfl h40 rfl) ?_
            refine JL_q (wants_none rfl) rfl (ex_assign rfl) ?_
            refine JL_nil ?_
            exact N_meet' () ⟨rfl, trivial⟩ [] rfl rfl
          · refine JL_passed rfl rfl rfl h40 ?_
            refine JL_passed rfl rfl rfl h40 ?_
            refine JL_passed rfl rfl rfl h40 ?_
            refine JL_q (wants_none rfl) rfl (ex_pick_false rfl h40 rfl) ?_
            refine JL_q (wants_none rfl) rfl (ex_assign rfl) ?_
            refine JL_nil ?_
            exact N_meet' () ⟨rfl, trivial⟩ [] rfl rfl
        · refine N_then ?_
          refine J_ret ?_
          refine N_then_ret ?_
          exact N_ret1 rfl (rv_tmp rfl) (fun w hh => ⟨(), rfl, hh.sel [] rfl⟩)
      · refine J_skip ?_
        refine N_then ?_
        refine J_seq ?_
        refine J_region ?_
        refine JL_q (wants_none rfl) rfl (ex_move rfl) ?_
        refine JL_q (wants_none rfl) rfl (ex_move rfl) ?_
        refine JL_q (wants_none rfl) rfl (ex_move rfl) ?_
        refine JL_bnd fun r41 hr42 => ?_
        refine JL_call (wants_none rfl) rfl Try.call28 rfl (Ca_self (fun _ => rfl) fun w hh => c_impl_CheckDerivation _ w (fun _ hk => hk.elim) _ _ (hh.rd0 3 rfl) _ _ (hh.rd0 5 rfl) _ _ (hh.od0 0 rfl) _ hr42) (fun x43 => ?_)
        obtain ⟨x43_0, x43_1⟩ := x43
        refine JL_ctx (fun w hh => hh.tkn_rd 0 rfl) ?_
        refine JL_q (wants_none rfl) rfl (ex_move rfl) ?_
        refine JL_q (wants_none rfl) rfl (ex_extract rfl rfl) ?_
        refine JL_q (wants_none rfl) rfl (ex_extract rfl rfl) ?_
        refine JL_q (wants_none rfl) rfl (ex_assign rfl) ?_
        refine JL_q (wants_none rfl) rfl (ex_assign rfl) ?_
        refine JL_nil ?_
        refine N_then ?_
        refine J_seq ?_
        refine J_region ?_
        refine JL_q (wants_none rfl) rfl (ex_move rfl) ?_
        refine JL_q (wants_none rfl) rfl (ex_move rfl) ?_
        refine JL_q (wants_none rfl) rfl (ex_move rfl) ?_
        refine JL_bnd fun y44 hy45 => ?_
        refine JL_q (wants_none rfl) rfl (ex_index_ow 9 Try.underlying33 ti_23 rfl rfl rfl hy45) ?_
        refine JL_st (wants_none rfl) rfl (st_load_ow_o 9 (opens_sl _) ti_23 rfl rfl hy45) (fun v46 => ?_)
        refine JL_bnd fun r47 hr48 => ?_
        refine JL_call (wants_none rfl) rfl Try.call29 rfl (Ca_of (fun _ => rfl) fun w hh => c_impl_SuccessorsOf _ w hh.av' _ _ (hh.rd 6 rfl) _ _ (hh.rd 0 rfl) _ hr48) (fun x49 => ?_)
        refine JL_q (wants_none rfl) rfl (ex_move rfl) ?_
        refine JL_q (wants_none rfl) rfl (ex_extract rfl rfl) ?_
        refine JL_q (wants_none rfl) rfl (ex_extract rfl rfl) ?_
        refine JL_q (wants_none rfl) rfl (ex_assign rfl) ?_
        refine JL_q (wants_none rfl) rfl (ex_assign rfl) ?_
        refine JL_nil ?_
        refine N_then ?_
        refine J_seq ?_
        refine J_cut' (S' := Unit) (G' := Unit) (fun _ _ => [(7, (.slice (some ⟨b31, 0, none⟩) r12.1.length cap32)), (8, .bool r12.2.1), (15, x49)]) (fun _ _ => [.ow 23 (.slice (some ⟨b31, 0, none⟩) r12.1.length cap32) r12.1, .ow 23 x49 r47.1]) ?_ (fun s50 g51 => ?_)
        · refine J_seq ?_
          refine J_region ?_
          refine JL_q (wants_none rfl) rfl (ex_move rfl) ?_
          refine JL_q (wants_none rfl) rfl (ex_neq rfl rfl) ?_
          refine JL_q (wants_none rfl) rfl (ex_move rfl) ?_
          refine JL_cond (fun h52 => ?_) (fun h52 => ?_)
          · refine JL_passed rfl rfl rfl h52 ?_
            refine JL_passed rfl rfl rfl h52 ?_
            refine JL_q (wants_none rfl) rfl (ex_pick_true rfl h52 rfl) ?_
            refine JL_q (wants_none rfl) rfl (ex_move rfl) ?_
            refine JL_passed rfl rfl rfl rfl ?_
            refine JL_passed rfl rfl rfl rfl ?_
            refine JL_passed rfl rfl rfl rfl ?_
            refine JL_passed rfl rfl rfl rfl ?_
            refine JL_passed rfl rfl rfl rfl ?_
            refine JL_passed rfl rfl rfl rfl ?_
            refine JL_passed rfl rfl rfl rfl ?_
            refine JL_q (wants_none rfl) rfl (ex_pick_true rfl rfl rfl) ?_
            refine JL_q (wants_none rfl) rfl (ex_move rfl) ?_
            refine JL_passed rfl rfl rfl rfl ?_
            refine JL_passed rfl rfl rfl rfl ?_
            refine JL_passed rfl rfl rfl rfl ?_
            refine JL_passed rfl rfl rfl rfl ?_
            refine JL_passed rfl rfl rfl rfl ?_
            refine JL_passed rfl rfl rfl rfl ?_
            refine JL_passed rfl rfl rfl rfl ?_
            refine JL_passed rfl rfl rfl rfl ?_
            refine JL_passed rfl rfl rfl rfl ?_
            refine JL_passed rfl rfl rfl rfl ?_
            refine JL_q (wants_none rfl) rfl (ex_pick_true rfl rfl rfl) ?_
            refine JL_nil ?_
            refine N_then ?_
            refine J_if_true rfl rfl ?_
            refine J_seq ?_
            refine J_region ?_
            refine JL_q (wants_none rfl) rfl (ex_assign rfl) ?_
            refine JL_nil ?_
            refine N_then ?_
            refine J_ret ?_
            refine N_mid_ret ?_
            refine N_then_ret ?_
            exact N_ret1 rfl (rv_tmp rfl) (fun w hh => ⟨(), rfl, hh.sel [] rfl⟩)
          · refine JL_q (wants_some rfl rfl rfl h52) rfl (ex_move rfl) ?_
            refine JL_q (wants_some rfl rfl rfl h52) rfl (ex_neq rfl rfl) ?_
            refine JL_q (wants_none rfl) rfl (ex_pick_false rfl h52 rfl) ?_
            refine JL_q (wants_none rfl) rfl (ex_move rfl) ?_
            refine JL_cond (fun h53 => ?_) (fun h53 => ?_)
            · refine JL_passed rfl rfl rfl h53 ?_
              refine JL_passed rfl rfl rfl h53 ?_
              refine JL_passed rfl rfl rfl h53 ?_
              refine JL_passed rfl rfl rfl h53 ?_
              refine JL_passed rfl rfl rfl h53 ?_
              refine JL_passed rfl rfl rfl h53 ?_
              refine JL_passed rfl rfl rfl h53 ?_
              refine JL_q (wants_none rfl) rfl (ex_pick_true rfl h53 rfl) ?_
              refine JL_q (wants_none rfl) rfl (ex_move rfl) ?_
              refine JL_passed rfl rfl rfl rfl ?_
              refine JL_passed rfl rfl rfl rfl ?_
              refine JL_passed rfl rfl rfl rfl ?_
              refine JL_passed rfl rfl rfl rfl ?_
              refine JL_passed rfl rfl rfl rfl ?_
              refine JL_passed rfl rfl rfl rfl ?_
              refine JL_passed rfl rfl rfl rfl ?_
              refine JL_passed rfl rfl rfl rfl ?_
              refine JL_passed rfl rfl rfl rfl ?_
              refine JL_passed rfl rfl rfl rfl ?_
              refine JL_q (wants_none rfl) rfl (ex_pick_true rfl rfl rfl) ?_
              refine JL_nil ?_
              refine N_then ?_
              refine J_if_true rfl rfl ?_
              refine J_seq ?_
              refine J_region ?_
              refine JL_q (wants_none rfl) rfl (ex_assign rfl) ?_
              refine JL_nil ?_
              refine N_then ?_
              refine J_ret ?_
              refine N_mid_ret ?_
              refine N_then_ret ?_
              exact N_ret1 rfl (rv_tmp rfl) (fun w hh => ⟨(), rfl, hh.sel [] rfl⟩)
            · refine JL_q (wants_some rfl rfl rfl h53) rfl (ex_move rfl) ?_
              refine JL_q (wants_some rfl rfl rfl h53) rfl (ex_move rfl) ?_
              refine JL_q (wants_some rfl rfl rfl h53) rfl (ex_move rfl) ?_
              refine JL_bnd fun y54 hy55 => ?_
              refine JL_q (wants_some rfl rfl rfl h53) rfl (ex_index_ow 11 Try.underlying33 ti_23 rfl rfl rfl hy55) ?_
              refine JL_st (wants_some rfl rfl rfl h53) rfl (st_load_ow_o 11 (opens_sl _) ti_23 rfl rfl hy55) (fun v56 => ?_)
              refine JL_bnd fun r57 hr58 => ?_
              refine JL_call (wants_some rfl rfl rfl h53) rfl Try.call25 rfl (Ca_of0 fun w hh => c_laws_b10Nums _ w (fun _ hk => hk.elim) _ _ (hh.rd0 3 rfl) _ _ (hh.rd0 0 rfl) _ hr58) (fun _ => ?_)
              refine JL_q (wants_some rfl rfl rfl h53) rfl (ex_not rfl) ?_
              refine JL_q (wants_none rfl) rfl (ex_pick_false rfl h53 rfl) ?_
              refine JL_q (wants_none rfl) rfl (ex_move rfl) ?_
              refine JL_cond (fun h59 => ?_) (fun h59 => ?_)
              · refine JL_passed rfl rfl rfl h59 ?_
                refine JL_passed rfl rfl rfl h59 ?_
                refine JL_passed rfl rfl rfl h59 ?_
                refine JL_passed rfl rfl rfl h59 ?_
                refine JL_passed rfl rfl rfl h59 ?_
                refine JL_passed rfl rfl rfl h59 ?_
                refine JL_passed rfl rfl rfl h59 ?_
                refine JL_passed rfl rfl rfl h59 ?_
                refine JL_passed rfl rfl rfl h59 ?_
                refine JL_passed rfl rfl rfl h59 ?_
                refine JL_q (wants_none rfl) rfl (ex_pick_true rfl h59 rfl) ?_
                refine JL_nil ?_
                refine N_then ?_
                refine J_if_true rfl rfl ?_
                refine J_seq ?_
                refine J_region ?_
                refine JL_q (wants_none rfl) rfl (ex_assign rfl) ?_
                refine JL_nil ?_
                refine N_then ?_
                refine J_ret ?_
                refine N_mid_ret ?_
                refine N_then_ret ?_
                exact N_ret1 rfl (rv_tmp rfl) (fun w hh => ⟨(), rfl, hh.sel [] rfl⟩)
              · refine JL_q (wants_some rfl rfl rfl h59) rfl (ex_move rfl) ?_
                refine JL_q (wants_some rfl rfl rfl h59) rfl (ex_move rfl) ?_
                refine JL_q (wants_some rfl rfl rfl h59) rfl (ex_move rfl) ?_
                refine JL_bnd fun y60 hy61 => ?_
                refine JL_q (wants_some rfl rfl rfl h59) rfl (ex_index_ow 12 Try.underlying33 ti_23 rfl rfl rfl hy61) ?_
                refine JL_st (wants_some rfl rfl rfl h59) rfl (st_load_ow_o 12 (opens_sl _) ti_23 rfl rfl hy61) (fun v62 => ?_)
                refine JL_bnd fun r63 hr64 => ?_
                refine JL_call (wants_some rfl rfl rfl h59) rfl Try.call30 rfl (Ca_of0 fun w hh => c_impl_IsNormalWord _ w (fun _ hk => hk.elim) _ _ (hh.rd0 9 rfl) _ _ (hh.rd0 0 rfl) _ hr64) (fun _ => ?_)
                refine JL_q (wants_some rfl rfl rfl h59) rfl (ex_move rfl) ?_
                refine JL_q (wants_some rfl rfl rfl h59) rfl (ex_len_ow 2 Try.underlying33 rfl rfl) ?_
                refine JL_q (wants_some rfl rfl rfl h59) rfl (ex_eql rfl rfl) ?_
                refine JL_q (wants_some rfl rfl rfl h59) rfl (ex_neq_bool Try.underlying4 rfl rfl) ?_
                refine JL_q (wants_none rfl) rfl (ex_pick_false rfl h59 rfl) ?_
                refine JL_nil ?_
                refine N_then ?_
                refine J_if rfl (fun h65 => ?_) (fun h65 => ?_)
                · refine J_seq ?_
                  refine J_region ?_
                  refine JL_q (wants_none rfl) rfl (ex_assign rfl) ?_
                  refine JL_nil ?_
                  refine N_then ?_
                  refine J_ret ?_
                  refine N_mid_ret ?_
                  refine N_then_ret ?_
                  exact N_ret1 rfl (rv_tmp rfl) (fun w hh => ⟨(), rfl, hh.sel [] rfl⟩)
                · refine J_skip ?_
                  exact N_meet' () ⟨rfl, rfl, rfl, trivial⟩ [13, 2] rfl rfl
        · refine N_then ?_
          refine J_seq ?_
          refine J_seq ?_
          refine J_region ?_
          refine JL_q (wants_none rfl) rfl (ex_assign rfl) ?_
          refine JL_nil ?_
          refine N_then ?_
          refine J_loop' (S := Int) (G := Unit) (F_laws_FnDerivations_L1 r12 r47) (fun s66 _ => [(7, (.slice (some ⟨b31, 0, none⟩) r12.1.length cap32)), (8, .bool r12.2.1), (15, x49), (17, .int .i64 s66)]) (fun s66 _ => [.ow 23 (.slice (some ⟨b31, 0, none⟩) r12.1.length cap32) r12.1, .ow 23 x49 r47.1]) 0 () ⟨rfl, rfl, rfl, rfl, trivial⟩ [0, 1] rfl rfl (fun s66 g67 => ?_) (fun s66 g67 => ?_)
          · unfold F_laws_FnDerivations_L1
            refine J_seq ?_
            refine J_seq ?_
            refine J_region ?_
            refine JL_q (wants_none rfl) rfl (ex_move rfl) ?_
            refine JL_q (wants_none rfl) rfl (ex_move rfl) ?_
            refine JL_cond (fun h68 => ?_) (fun h68 => ?_)
            · refine JL_q (wants_some rfl rfl rfl h68) rfl (ex_move rfl) ?_
              refine JL_q (wants_some rfl rfl rfl h68) rfl (ex_move rfl) ?_
              refine JL_q (wants_some rfl rfl rfl h68) rfl (ex_len_ow 1 Try.underlying33 rfl rfl) ?_
              refine JL_q (wants_some rfl rfl rfl h68) rfl (ex_lss rfl rfl) ?_
              refine JL_q (wants_none rfl) rfl (ex_pick_true rfl h68 rfl) ?_
              refine JL_nil ?_
              refine N_then ?_
              refine J_if rfl (fun h69 => ?_) (fun h69 => ?_)
              · refine J_skip ?_
                refine N_then ?_
                refine J_seq ?_
                refine J_block ?_
                refine J_seq ?_
                refine J_region ?_
                refine JL_q (wants_none rfl) rfl (ex_move rfl) ?_
                refine JL_q (wants_none rfl) rfl (ex_move rfl) ?_
                refine JL_q (wants_none rfl) rfl (ex_move rfl) ?_
                refine JL_bnd fun y70 hy71 => ?_
                refine JL_ow_open (v := x49) 1 rfl hy71 ?_; rintro b72 cap73 rfl
                refine JL_q (wants_none rfl) rfl (ex_index_ow 1 Try.underlying33 ti_23 rfl rfl rfl hy71) ?_
                refine JL_st (wants_none rfl) rfl (st_load_ow_o 1 (opens_sl _) ti_23 rfl rfl hy71) (fun v74 => ?_)
                refine JL_bnd fun r75 hr76 => ?_
                refine JL_call (wants_none rfl) rfl Try.call31 rfl (Ca_of0 fun w hh => c_laws_b10Row _ w (fun _ hk => hk.elim) _ _ (hh.ow0 1 rfl) _ _ (hh.rd0 0 rfl) _ hr76) (fun _ => ?_)
                refine JL_q (wants_none rfl) rfl (ex_not rfl) ?_
                refine JL_nil ?_
                refine N_then ?_
                refine J_if rfl (fun h77 => ?_) (fun h77 => ?_)
                · refine J_seq ?_
                  refine J_region ?_
                  refine JL_q (wants_none rfl) rfl (ex_assign rfl) ?_
                  refine JL_nil ?_
                  refine N_then ?_
                  refine J_ret ?_
                  refine N_block_ret ?_
                  refine N_then_ret ?_
                  refine N_round_ret ?_
                  refine N_then_ret ?_
                  exact N_ret1 rfl (rv_tmp rfl) (fun w hh => ⟨(), rfl, hh.sel [] rfl⟩)
                · refine J_skip ?_
                  refine N_block ?_
                  refine N_then ?_
                  refine J_region ?_
                  refine JL_q (wants_none rfl) rfl (ex_move rfl) ?_
                  refine JL_q (wants_none rfl) rfl (ex_add rfl rfl) ?_
                  refine JL_q (wants_none rfl) rfl (ex_assign rfl) ?_
                  refine JL_nil ?_
                  exact N_next' () ⟨rfl, rfl, rfl, rfl, trivial⟩ [1, 2] rfl rfl
              · refine J_exit ?_
                refine N_then_exit ?_
                exact N_break' () ⟨rfl, rfl, rfl, rfl, trivial⟩ [0, 1] rfl rfl
            · refine JL_passed rfl rfl rfl h68 ?_
              refine JL_passed rfl rfl rfl h68 ?_
              refine JL_passed rfl rfl rfl h68 ?_
              refine JL_passed rfl rfl rfl h68 ?_
              refine JL_q (wants_none rfl) rfl (ex_pick_false rfl h68 rfl) ?_
              refine JL_nil ?_
              refine N_then ?_
              refine J_if_false rfl rfl ?_
              refine J_exit ?_
              refine N_then_exit ?_
              exact N_break' () ⟨rfl, rfl, rfl, rfl, trivial⟩ [0, 1] rfl rfl
          · refine N_then ?_
            refine J_seq ?_
            refine J_region ?_
            refine JL_q (wants_none rfl) rfl (ex_assign rfl) ?_
            refine JL_nil ?_
            refine N_then ?_
            refine J_ret ?_
            exact N_ret1 rfl (rv_tmp rfl) (fun w hh => ⟨(), rfl, hh.sel [] rfl⟩)

end Go.Proofs.Ythmompdfapcgkaa
