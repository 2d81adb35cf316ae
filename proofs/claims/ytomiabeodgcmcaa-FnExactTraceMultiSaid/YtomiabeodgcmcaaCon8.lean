/-
  Each function of the program computes what its plain function says: printed by program. No condition.
-/
import Derived.Test.YtomiabeodgcmcaaFn
import Derived.Test.YtomiabeodgcmcaaInf
import Derived.Test.YtomiabeodgcmcaaCon1
import Derived.Test.YtomiabeodgcmcaaCon2
import Derived.Test.YtomiabeodgcmcaaCon3
import Derived.Test.YtomiabeodgcmcaaCon5
namespace Go.Proofs.Ytomiabeodgcmcaa
open Go Go.Tc Go.Fn
set_option linter.unusedVariables false

set_option maxHeartbeats 40000000 in
theorem c_spec_TraceMulti (A : Nat → Prop) (w : World) (hA : ∀ k, A k → k < w.heap.size) (v0_ : Value) (p0 : GMulti) (hp0 : Rd A w v0_ p0) (v1_ : Value) (p1 : GMultiConfig) (hp1 : Rd A w v1_ p1) (p2 : Int) (r : (List GMultiConfig) × Int) (hr : F_spec_TraceMulti p0 p1 p2 = some r) :
    Con Try.prog 19 [v0_, v1_, .int .i64 p2] A w (fun x_ : Value × List Nat => .tuple #[x_.1, .int .i64 r.2]) (fun x_ => [.od 32 x_.1 r.1 x_.2]) := by
  obtain ⟨v0_0, rfl, hp0_0⟩ := GMulti.open hp0
  obtain ⟨v1_0, rfl, hp1_0⟩ := GMultiConfig.open hp1
  refine Con_of (v := fun (r : (List GMultiConfig) × Int) (x_ : Value × List Nat) => .tuple #[x_.1, .int .i64 r.2]) (fs := fun r x_ => [.od 32 x_.1 r.1 x_.2]) Try.func19 rfl Try.ntmps19 rfl (((SH.start hA).start_rd rfl hp0_0).start_rd rfl hp1_0) rfl ?_ hr
  unfold F_spec_TraceMulti
  refine J_seq ?_
  refine J_region ?_
  refine JL_st (wants_none rfl) rfl (st_box' rfl (fun w hh => (cv_aggs ⟨cv_int, cv_int, cv_int, (hh.cv 1 rfl), trivial⟩))) (fun b1 => ?_)
  refine JL_st (wants_none rfl) rfl (st_box' rfl (fun w hh => (cv_aggs ⟨cv_int, (hh.cv 1 rfl), trivial⟩))) (fun b2 => ?_)
  refine JL_q (wants_none rfl) rfl (ex_assign rfl) ?_
  refine JL_q (wants_none rfl) rfl (ex_assign rfl) ?_
  refine JL_nil ?_
  refine N_then ?_
  refine J_seq ?_
  refine J_cut' (S' := Unit) (G' := Unit) (fun _ _ => [(2, .int .i64 p2), (3, .pointer (some ⟨b1, 0, none⟩)), (4, .pointer (some ⟨b2, 0, none⟩))]) (fun _ _ => [.rd v0_0 p0.Rules, .bx b1 37 [.int .i64 p0.Tapes, .int .i64 p0.Symbols, .int .i64 p0.States, v0_0], .rd v1_0 p1.Tapes, .bx b2 32 [.int .i64 p1.State, v1_0]]) ?_ (fun s3 g4 => ?_)
  · refine J_seq ?_
    refine J_region ?_
    refine JL_bnd fun r5 hr6 => ?_
    refine JL_call (wants_none rfl) rfl Try.call26 rfl (Ca_of0 fun w hh => c_spec_l06Is _ w (fun _ hk => hk.elim) _ _ (hh.bx_pa 1 rfl (GMulti.rdmk (Rd.mk_int _ _ _) (Rd.mk_int _ _ _) (Rd.mk_int _ _ _) (hh.rd0 3 rfl)) rfl) _ hr6) (fun _ => ?_)
    refine JL_q (wants_none rfl) rfl (ex_not rfl) ?_
    refine JL_q (wants_none rfl) rfl (ex_move rfl) ?_
    refine JL_cond (fun h7 => ?_) (fun h7 => ?_)
    · refine JL_passed rfl rfl rfl h7 ?_
      refine JL_passed rfl rfl rfl h7 ?_
      refine JL_q (wants_none rfl) rfl (ex_pick_true rfl h7 rfl) ?_
      refine JL_nil ?_
      refine N_then ?_
      refine J_if_true rfl rfl ?_
      refine J_seq ?_
      refine J_region ?_
      refine JL_q (wants_none rfl) rfl (ex_assign rfl) ?_
      refine JL_q (wants_none rfl) rfl (ex_assign rfl) ?_
      refine JL_nil ?_
      refine N_then ?_
      refine J_ret ?_
      refine N_mid_ret ?_
      refine N_then_ret ?_
      refine N_ctx (fun w hh => SH.od_nil (α := GMultiConfig) 32 hh) ?_
      exact N_ret2 rfl (rv_tmp rfl) (rv_tmp rfl) (fun w hh => ⟨((.slice none 0 0 : Value), ([] : List Nat)), rfl, hh.sel [0] rfl⟩)
    · refine JL_bnd fun r8 hr9 => ?_
      refine JL_call (wants_some rfl rfl rfl h7) rfl Try.call27 rfl (Ca_of0 fun w hh => c_spec_l06Good _ w (fun _ hk => hk.elim) _ _ (hh.bx_pa 1 rfl (GMulti.rdmk (Rd.mk_int _ _ _) (Rd.mk_int _ _ _) (Rd.mk_int _ _ _) (hh.rd0 3 rfl)) rfl) _ _ (hh.bx_pa 0 rfl (GMultiConfig.rdmk (Rd.mk_int _ _ _) (hh.rd0 2 rfl)) rfl) _ hr9) (fun _ => ?_)
      refine JL_q (wants_some rfl rfl rfl h7) rfl (ex_not rfl) ?_
      refine JL_q (wants_none rfl) rfl (ex_pick_false rfl h7 rfl) ?_
      refine JL_nil ?_
      refine N_then ?_
      refine J_if rfl (fun h10 => ?_) (fun h10 => ?_)
      · refine J_seq ?_
        refine J_region ?_
        refine JL_q (wants_none rfl) rfl (ex_assign rfl) ?_
        refine JL_q (wants_none rfl) rfl (ex_assign rfl) ?_
        refine JL_nil ?_
        refine N_then ?_
        refine J_ret ?_
        refine N_mid_ret ?_
        refine N_then_ret ?_
        refine N_ctx (fun w hh => SH.od_nil (α := GMultiConfig) 32 hh) ?_
        exact N_ret2 rfl (rv_tmp rfl) (rv_tmp rfl) (fun w hh => ⟨((.slice none 0 0 : Value), ([] : List Nat)), rfl, hh.sel [0] rfl⟩)
      · refine J_skip ?_
        exact N_meet' () ⟨rfl, rfl, rfl, trivial⟩ [3, 1, 2, 0] rfl rfl
  · refine N_then ?_
    refine J_seq ?_
    refine J_seq ?_
    refine J_region ?_
    refine JL_q (wants_none rfl) rfl (ex_move rfl) ?_
    refine JL_bnd fun r11 hr12 => ?_
    refine JL_call (wants_none rfl) rfl Try.call39 rfl (Ca_of0 fun w hh => c_spec_l00In _ w (fun _ hk => hk.elim) _ _ _ _ hr12) (fun _ => ?_)
    refine JL_q (wants_none rfl) rfl (ex_not rfl) ?_
    refine JL_nil ?_
    refine N_then ?_
    refine J_if rfl (fun h13 => ?_) (fun h13 => ?_)
    · refine J_seq ?_
      refine J_region ?_
      refine JL_q (wants_none rfl) rfl (ex_assign rfl) ?_
      refine JL_q (wants_none rfl) rfl (ex_assign rfl) ?_
      refine JL_nil ?_
      refine N_then ?_
      refine J_ret ?_
      refine N_then_ret ?_
      refine N_ctx (fun w hh => SH.od_nil (α := GMultiConfig) 32 hh) ?_
      exact N_ret2 rfl (rv_tmp rfl) (rv_tmp rfl) (fun w hh => ⟨((.slice none 0 0 : Value), ([] : List Nat)), rfl, hh.sel [0] rfl⟩)
    · refine J_skip ?_
      refine N_then ?_
      refine J_seq ?_
      refine J_region ?_
      refine JL_bnd fun r14 hr15 => ?_
      refine JL_call (wants_none rfl) rfl Try.call45 rfl (Ca_self (fun _ => rfl) fun w hh => c_spec_l06Own _ w (fun _ hk => hk.elim) _ _ (hh.bx_pa 3 rfl (GMultiConfig.rdmk (Rd.mk_int _ _ _) (hh.rd0 2 rfl)) rfl) _ hr15) (fun x16 => ?_)
      obtain ⟨x16_0, x16_1⟩ := x16
      refine JL_ctx (fun w hh => hh.tok 0 rfl) ?_
      refine JL_st (wants_none rfl) rfl (st_buildSlice_od (vs := [.agg #[.int .i64 r14.State, x16_0]]) (B := (((x16_0 : Value).ownBlock.toList ++ x16_1) ++ [])) ([r14] : List GMultiConfig) [0] Try.underlying48 ti_32 zi_32 rfl rfl rfl rfl rfl (fun w hh => (dwv_cons (GMultiConfig.dw (hh.dw 0 rfl)) dwv_nil))) (fun b17 => ?_)
      refine JL_q (wants_none rfl) rfl (ex_assign rfl) ?_
      refine JL_nil ?_
      refine N_then ?_
      refine J_seq ?_
      refine J_loop' (S := Int × (List GMultiConfig)) (G := Value × List Nat) (F_spec_TraceMulti_L1 p0) (fun s18 g19 => [(2, .int .i64 s18.1), (3, .pointer (some ⟨b1, 0, none⟩)), (8, g19.1)]) (fun s18 g19 => [.rd v0_0 p0.Rules, .bx b1 37 [.int .i64 p0.Tapes, .int .i64 p0.Symbols, .int .i64 p0.States, v0_0], .od 32 g19.1 s18.2 g19.2]) (p2, ([r14] : List GMultiConfig)) ((.slice (some ⟨b17, 0, none⟩) 1 1), (((x16_0 : Value).ownBlock.toList ++ x16_1) ++ [])) ⟨rfl, rfl, rfl, trivial⟩ [3, 4, 0] rfl rfl (fun s18 g19 => ?_) (fun s18 g19 => ?_)
      · obtain ⟨g19_0, g19_1⟩ := g19
        unfold F_spec_TraceMulti_L1
        refine J_seq ?_
        refine J_seq ?_
        refine J_region ?_
        refine JL_q (wants_none rfl) rfl (ex_move rfl) ?_
        refine JL_q (wants_none rfl) rfl (ex_gtr rfl rfl) ?_
        refine JL_nil ?_
        refine N_then ?_
        refine J_if rfl (fun h20 => ?_) (fun h20 => ?_)
        · refine J_skip ?_
          refine N_then ?_
          refine J_seq ?_
          refine J_block ?_
          refine J_seq ?_
          refine J_region ?_
          refine JL_q (wants_none rfl) rfl (ex_move rfl) ?_
          refine JL_q (wants_none rfl) rfl (ex_move rfl) ?_
          refine JL_q (wants_none rfl) rfl (ex_od 2 rfl (ex_len_ow 2 Try.underlying48 rfl rfl)) ?_
          refine JL_q (wants_none rfl) rfl (ex_sub rfl rfl) ?_
          refine JL_bnd fun y21 hy22 => ?_
          refine JL_od_open (v := g19_0) 2 rfl hy22 ?_; rintro b23 cap24 rfl
          refine JL_q (wants_none rfl) rfl (ex_od 2 rfl (ex_index_ow 2 Try.underlying48 ti_32 rfl rfl rfl hy22)) ?_
          refine JL_st (wants_none rfl) rfl (st_od 2 rfl (st_load_ow_o 2 (GMultiConfig.opens _) ti_32 rfl rfl hy22) (fun _ => rfl)) (fun v25 => ?_)
          refine JL_st (wants_none rfl) rfl (st_alloc zi_32 rfl) (fun b26 => ?_)
          refine JL_sk (wants_none rfl) (sk_store_bx' 0 ti_32 rfl rfl (fun w hh => (cv_aggs ⟨cv_int, (hh.cv 1 rfl), trivial⟩)) rfl rfl rfl rfl) ?_
          refine JL_nil ?_
          refine N_then ?_
          refine J_seq ?_
          refine J_seq ?_
          refine J_region ?_
          refine JL_bnd fun r27 hr28 => ?_
          refine JL_call (wants_none rfl) rfl Try.call46 rfl (Ca_of0 fun w hh => c_spec_l06Rule _ w (fun _ hk => hk.elim) _ _ (hh.bx_pa 3 rfl (GMulti.rdmk (Rd.mk_int _ _ _) (Rd.mk_int _ _ _) (Rd.mk_int _ _ _) (hh.rd0 2 rfl)) rfl) _ _ (hh.bx_pa 0 rfl (GMultiConfig.rdmk (Rd.mk_int _ _ _) (hh.rd0 1 rfl)) rfl) _ hr28) (fun _ => ?_)
          refine JL_q (wants_none rfl) rfl (ex_lss rfl rfl) ?_
          refine JL_nil ?_
          refine N_then ?_
          refine J_if rfl (fun h29 => ?_) (fun h29 => ?_)
          · refine J_exit ?_
            refine N_then_exit ?_
            refine N_block_exit_ne rfl ?_
            refine N_then_exit ?_
            exact N_break' ((.slice (some ⟨b23, 0, none⟩) s18.2.length cap24), g19_1) ⟨rfl, rfl, rfl, trivial⟩ [2, 3, 4] rfl rfl
          · refine J_skip ?_
            refine N_then ?_
            refine J_seq ?_
            refine J_region ?_
            refine JL_bnd fun r30 hr31 => ?_
            refine JL_call (wants_none rfl) rfl Try.call28 rfl (Ca_self (fun _ => rfl) fun w hh => c_spec_l06Step _ w (fun _ hk => hk.elim) _ _ (hh.bx_pa 3 rfl (GMulti.rdmk (Rd.mk_int _ _ _) (Rd.mk_int _ _ _) (Rd.mk_int _ _ _) (hh.rd0 2 rfl)) rfl) _ _ (hh.bx_pa 0 rfl (GMultiConfig.rdmk (Rd.mk_int _ _ _) (hh.rd0 1 rfl)) rfl) _ hr31) (fun x32 => ?_)
            obtain ⟨x32_0, x32_1⟩ := x32
            refine JL_q (wants_none rfl) rfl (ex_move rfl) ?_
            refine JL_q (wants_none rfl) rfl (ex_extract rfl rfl) ?_
            refine JL_q (wants_none rfl) rfl (ex_extract rfl rfl) ?_
            refine JL_st (wants_none rfl) rfl (st_alloc zi_32 rfl) (fun b33 => ?_)
            refine JL_sk (wants_none rfl) (sk_store_bx' 0 ti_32 rfl rfl (fun w hh => (cv_aggs ⟨cv_int, (hh.cv_od 1 rfl), trivial⟩)) rfl rfl rfl rfl) ?_
            refine JL_q (wants_none rfl) rfl (ex_assign rfl) ?_
            refine JL_nil ?_
            refine N_then ?_
            refine J_seq ?_
            refine J_seq ?_
            refine J_region ?_
            refine JL_q (wants_none rfl) rfl (ex_move rfl) ?_
            refine JL_q (wants_none rfl) rfl (ex_neq rfl rfl) ?_
            refine JL_nil ?_
            refine N_then ?_
            refine J_if rfl (fun h34 => ?_) (fun h34 => ?_)
            · refine J_seq ?_
              refine J_region ?_
              refine JL_q (wants_none rfl) rfl (ex_move rfl) ?_
              refine JL_q (wants_none rfl) rfl (ex_assign rfl) ?_
              refine JL_q (wants_none rfl) rfl (ex_assign rfl) ?_
              refine JL_nil ?_
              refine N_then ?_
              refine J_ret ?_
              refine N_then_ret ?_
              refine N_block_ret ?_
              refine N_then_ret ?_
              refine N_round_ret ?_
              refine N_then_ret ?_
              refine N_ctx (fun w hh => SH.od_nil (α := GMultiConfig) 32 hh) ?_
              exact N_ret2 rfl (rv_tmp rfl) (rv_tmp rfl) (fun w hh => ⟨((.slice none 0 0 : Value), ([] : List Nat)), rfl, hh.sel [0] rfl⟩)
            · refine J_skip ?_
              refine N_then ?_
              refine J_region ?_
              refine JL_q (wants_none rfl) rfl (ex_move rfl) ?_
              refine JL_q (wants_none rfl) rfl (ex_load_bx_agg 0 ti_32 rfl rfl rfl rfl) ?_
              refine JL_ctx (fun w hh => hh.tok 1 rfl) ?_
              refine JL_st (wants_none rfl) rfl (st_buildSlice_od (vs := [.agg #[.int .i64 r30.1.State, x32_0]]) (B := (((x32_0 : Value).ownBlock.toList ++ x32_1) ++ [])) ([r30.1] : List GMultiConfig) [0] Try.underlying48 ti_32 zi_32 rfl rfl rfl rfl rfl (fun w hh => (dwv_cons (GMultiConfig.dw (hh.dw 0 rfl)) dwv_nil))) (fun b35 => ?_)
              refine JL_bnd fun z36 hz37 => ?_
              refine JL_st (wants_none rfl) rfl (st_append_od 8 0 Try.underlying48 ti_32 zi_32 rfl bi_32 rfl rfl rfl rfl rfl rfl hz37) (fun v38 => ?_)
              refine JL_q (wants_none rfl) rfl (ex_assign rfl) ?_
              refine JL_nil ?_
              refine N_block ?_
              refine N_then ?_
              refine J_region ?_
              refine JL_q (wants_none rfl) rfl (ex_move rfl) ?_
              refine JL_q (wants_none rfl) rfl (ex_sub rfl rfl) ?_
              refine JL_q (wants_none rfl) rfl (ex_assign rfl) ?_
              refine JL_nil ?_
              exact N_next' (v38, (g19_1 ++ (((x32_0 : Value).ownBlock.toList ++ x32_1) ++ []))) ⟨rfl, rfl, rfl, trivial⟩ [6, 7, 8] rfl rfl
        · refine J_exit ?_
          refine N_then_exit ?_
          exact N_break' (g19_0, g19_1) ⟨rfl, rfl, rfl, trivial⟩ [0, 1, 2] rfl rfl
      · obtain ⟨g19_0, g19_1⟩ := g19
        refine N_then ?_
        refine J_seq ?_
        refine J_region ?_
        refine JL_q (wants_none rfl) rfl (ex_move rfl) ?_
        refine JL_q (wants_none rfl) rfl (ex_assign rfl) ?_
        refine JL_q (wants_none rfl) rfl (ex_assign rfl) ?_
        refine JL_nil ?_
        refine N_then ?_
        refine J_ret ?_
        exact N_ret2 rfl (rv_tmp rfl) (rv_tmp rfl) (fun w hh => ⟨(g19_0, g19_1), rfl, hh.sel [2] rfl⟩)

set_option maxHeartbeats 40000000 in
theorem c_impl_TraceMulti (A : Nat → Prop) (w : World) (hA : ∀ k, A k → k < w.heap.size) (v0_ : Value) (p0 : GMulti) (hp0 : Rd A w v0_ p0) (v1_ : Value) (p1 : GMultiConfig) (hp1 : Rd A w v1_ p1) (p2 : Int) (r : (List GMultiConfig) × Int) (hr : F_impl_TraceMulti p0 p1 p2 = some r) :
    Con Try.prog 20 [v0_, v1_, .int .i64 p2] A w (fun x_ : Value × List Nat => .tuple #[x_.1, .int .i64 r.2]) (fun x_ => [.od 32 x_.1 r.1 x_.2]) := by
  obtain ⟨v0_0, rfl, hp0_0⟩ := GMulti.open hp0
  obtain ⟨v1_0, rfl, hp1_0⟩ := GMultiConfig.open hp1
  refine Con_of (v := fun (r : (List GMultiConfig) × Int) (x_ : Value × List Nat) => .tuple #[x_.1, .int .i64 r.2]) (fs := fun r x_ => [.od 32 x_.1 r.1 x_.2]) Try.func20 rfl Try.ntmps20 rfl (((SH.start hA).start_rd rfl hp0_0).start_rd rfl hp1_0) rfl ?_ hr
  unfold F_impl_TraceMulti
  refine J_seq ?_
  refine J_region ?_
  refine JL_st (wants_none rfl) rfl (st_box' rfl (fun w hh => (cv_aggs ⟨cv_int, cv_int, cv_int, (hh.cv 1 rfl), trivial⟩))) (fun b1 => ?_)
  refine JL_st (wants_none rfl) rfl (st_box' rfl (fun w hh => (cv_aggs ⟨cv_int, (hh.cv 1 rfl), trivial⟩))) (fun b2 => ?_)
  refine JL_q (wants_none rfl) rfl (ex_assign rfl) ?_
  refine JL_q (wants_none rfl) rfl (ex_assign rfl) ?_
  refine JL_nil ?_
  refine N_then ?_
  refine J_seq ?_
  refine J_seq ?_
  refine J_region ?_
  refine JL_q (wants_none rfl) rfl (ex_load_bx_agg 1 ti_37 rfl rfl rfl rfl) ?_
  refine JL_q (wants_none rfl) rfl (ex_load_bx_agg 0 ti_32 rfl rfl rfl rfl) ?_
  refine JL_bnd fun r3 hr4 => ?_
  refine JL_call (wants_none rfl) rfl Try.call41 rfl (Ca_of0 fun w hh => c_impl_ValidMultiConfig _ w (fun _ hk => hk.elim) _ _ (GMulti.rdmk (Rd.mk_int _ _ _) (Rd.mk_int _ _ _) (Rd.mk_int _ _ _) (hh.rd0 3 rfl)) _ _ (GMultiConfig.rdmk (Rd.mk_int _ _ _) (hh.rd0 2 rfl)) _ hr4) (fun _ => ?_)
  refine JL_q (wants_none rfl) rfl (ex_not rfl) ?_
  refine JL_nil ?_
  refine N_then ?_
  refine J_if rfl (fun h5 => ?_) (fun h5 => ?_)
  · refine J_seq ?_
    refine J_region ?_
    refine JL_q (wants_none rfl) rfl (ex_assign rfl) ?_
    refine JL_q (wants_none rfl) rfl (ex_assign rfl) ?_
    refine JL_nil ?_
    refine N_then ?_
    refine J_ret ?_
    refine N_then_ret ?_
    refine N_ctx (fun w hh => SH.od_nil (α := GMultiConfig) 32 hh) ?_
    exact N_ret2 rfl (rv_tmp rfl) (rv_tmp rfl) (fun w hh => ⟨((.slice none 0 0 : Value), ([] : List Nat)), rfl, hh.sel [0] rfl⟩)
  · refine J_skip ?_
    refine N_then ?_
    refine J_seq ?_
    refine J_seq ?_
    refine J_region ?_
    refine JL_q (wants_none rfl) rfl (ex_move rfl) ?_
    refine JL_bnd fun r6 hr7 => ?_
    refine JL_call (wants_none rfl) rfl Try.call47 rfl (Ca_of0 fun w hh => c_impl_within _ w (fun _ hk => hk.elim) _ _ _ _ hr7) (fun _ => ?_)
    refine JL_q (wants_none rfl) rfl (ex_not rfl) ?_
    refine JL_nil ?_
    refine N_then ?_
    refine J_if rfl (fun h8 => ?_) (fun h8 => ?_)
    · refine J_seq ?_
      refine J_region ?_
      refine JL_q (wants_none rfl) rfl (ex_assign rfl) ?_
      refine JL_q (wants_none rfl) rfl (ex_assign rfl) ?_
      refine JL_nil ?_
      refine N_then ?_
      refine J_ret ?_
      refine N_then_ret ?_
      refine N_ctx (fun w hh => SH.od_nil (α := GMultiConfig) 32 hh) ?_
      exact N_ret2 rfl (rv_tmp rfl) (rv_tmp rfl) (fun w hh => ⟨((.slice none 0 0 : Value), ([] : List Nat)), rfl, hh.sel [0] rfl⟩)
    · refine J_skip ?_
      refine N_then ?_
      refine J_seq ?_
      refine J_region ?_
      refine JL_q (wants_none rfl) rfl (ex_load_bx_agg 0 ti_32 rfl rfl rfl rfl) ?_
      refine JL_bnd fun r9 hr10 => ?_
      refine JL_call (wants_none rfl) rfl Try.call32 rfl (Ca_self (fun _ => rfl) fun w hh => Con.mapx (v' := fun (x_ : Value × List Nat) => .agg #[.int .i64 r9.State, x_.1]) (fs' := fun x_ => [mkr x_.1 r9.Tapes x_.2]) (c_impl_copyMultiConfig _ w (fun _ hk => hk.elim) _ _ (GMultiConfig.rdmk (Rd.mk_int _ _ _) (hh.rd0 2 rfl)) _ hr10) (fun x_ w_ k_ => by obtain ⟨C_, k2_⟩ := SH.od_mk k_; exact ⟨(x_.1, C_), rfl, k2_⟩)) (fun x11 => ?_)
      obtain ⟨x11_0, x11_1⟩ := x11
      refine JL_st (wants_none rfl) rfl (st_buildSlice_od (vs := []) (B := ([] : List Nat)) ([] : List GMultiConfig) [] Try.underlying48 ti_32 zi_32 rfl rfl rfl rfl rfl (fun w hh => dwv_nil)) (fun b12 => ?_)
      refine JL_st (wants_none rfl) rfl (st_alloc zi_32 rfl) (fun b13 => ?_)
      refine JL_st (wants_none rfl) rfl (st_alloc zi_48 rfl) (fun b14 => ?_)
      refine JL_sk (wants_none rfl) (sk_store_bx' 1 ti_32 rfl rfl (fun w hh => (cv_aggs ⟨cv_int, (hh.cv_mk 3 rfl), trivial⟩)) rfl rfl rfl rfl) ?_
      refine JL_sk (wants_none rfl) (sk_store_bx' 0 ti_48 rfl rfl (fun w hh => (hh.cv_od 2 rfl)) rfl rfl rfl rfl) ?_
      refine JL_nil ?_
      refine N_then ?_
      refine J_seq ?_
      refine J_region ?_
      refine JL_q (wants_none rfl) rfl (ex_load_bx_agg 5 ti_37 rfl rfl rfl rfl) ?_
      refine JL_q (wants_none rfl) rfl (ex_move rfl) ?_
      refine JL_q (wants_none rfl) rfl (ex_makeFunc rfl) ?_
      refine JL_inline (wants_none rfl) rfl Try.call43 rfl Try.func43 rfl Try.ntmps43 rfl rfl (fun K_ hK15 => ?_)
      refine J_seq ?_
      refine J_region ?_
      refine JL_st (wants_none rfl) rfl (st_box' rfl (fun w hh => (cv_aggs ⟨cv_int, cv_int, cv_int, (hh.cv 7 rfl), trivial⟩))) (fun b16 => ?_)
      refine JL_q (wants_none rfl) rfl (ex_assign rfl) ?_
      refine JL_q (wants_none rfl) rfl (ex_assign rfl) ?_
      refine JL_q (wants_none rfl) rfl (ex_assign rfl) ?_
      refine JL_nil ?_
      refine N_then ?_
      refine J_seq ?_
      refine J_region ?_
      refine JL_q (wants_none rfl) rfl (ex_load_bx_agg 0 ti_37 rfl rfl rfl rfl) ?_
      refine JL_inline (wants_none rfl) rfl Try.call57 rfl Try.func57 rfl Try.ntmps57 rfl rfl (fun K_ hK17 => ?_)
      refine J_seq ?_
      refine J_region ?_
      refine JL_st (wants_none rfl) rfl (st_box' rfl (fun w hh => (cv_aggs ⟨cv_int, cv_int, cv_int, (hh.cv 8 rfl), trivial⟩))) (fun b18 => ?_)
      refine JL_q (wants_none rfl) rfl (ex_assign rfl) ?_
      refine JL_nil ?_
      refine N_then ?_
      refine J_seq ?_
      refine J_region ?_
      refine JL_st (wants_none rfl) rfl (st_makeMap (κ := Greading) (ν := Int) (enc := Greading.enc) (venc := (Value.int .i64))) (fun b19 => ?_)
      refine JL_q (wants_none rfl) rfl (ex_assign rfl) ?_
      refine JL_nil ?_
      refine N_then ?_
      refine J_seq ?_
      refine J_seq ?_
      refine J_region ?_
      refine JL_q (wants_none rfl) rfl (ex_fieldAddr fi_37_3 rfl rfl) ?_
      refine JL_q (wants_none rfl) rfl (ex_load_bx 1 ti_35 rfl rfl rfl) ?_
      refine JL_q (wants_none rfl) rfl (ex_len_rd 10 Try.underlying35 rfl rfl) ?_
      refine JL_q (wants_none rfl) rfl (ex_move rfl) ?_
      refine JL_nil ?_
      refine N_then ?_
      refine J_loop' (S := List (Greading × Int) × Int) (G := Unit) (F_impl_TraceMulti_L1 p0) (fun s20 _ => [(3, .map (some b19)), (9, v0_0), (10, .int .i64 (p0.Rules.length : Int)), (11, .int .i64 s20.2)]) (fun s20 _ => [mpf Greading.enc (Value.int .i64) b19 s20.1, .rd v0_0 p0.Rules, .od 32 (.slice (some ⟨b12, 0, none⟩) 0 0) ([] : List GMultiConfig) [], .bx b14 48 [(.slice (some ⟨b12, 0, none⟩) 0 0)], mkr x11_0 r9.Tapes x11_1, .bx b13 32 [.int .i64 r9.State, x11_0], .bx b16 37 [.int .i64 p0.Tapes, .int .i64 p0.Symbols, .int .i64 p0.States, v0_0]]) (([] : List (Greading × Int)), 0) () ⟨rfl, rfl, rfl, rfl, trivial⟩ [0, 10, 5, 3, 6, 4, 2] rfl rfl (fun s20 g21 => ?_) (fun s20 g21 => ?_)
      · unfold F_impl_TraceMulti_L1
        refine J_seq ?_
        refine J_region ?_
        refine JL_q (wants_none rfl) rfl (ex_lss rfl rfl) ?_
        refine JL_nil ?_
        refine N_then ?_
        refine J_seq ?_
        refine J_if rfl (fun h22 => ?_) (fun h22 => ?_)
        · refine J_skip ?_
          refine N_then ?_
          refine J_seq ?_
          refine J_block ?_
          refine J_seq ?_
          refine J_region ?_
          refine JL_q (wants_none rfl) rfl (ex_move rfl) ?_
          refine JL_bnd fun y23 hy24 => ?_
          refine JL_st (wants_none rfl) rfl (st_index 1 Try.underlying35 ti_68 rfl rfl rfl hy24) (fun q25 => ?_)
          refine JL_st (wants_none rfl) rfl (st_load_pt_o 0 (GMultiRule.opens _) ti_68 rfl rfl) (fun v26 => ?_)
          refine JL_st (wants_none rfl) rfl (st_alloc zi_68 rfl) (fun b27 => ?_)
          refine JL_q (wants_none rfl) rfl (ex_assign rfl) ?_
          refine JL_sk (wants_none rfl) (sk_store_bx' 0 ti_68 rfl rfl (fun w hh => (cv_aggs ⟨cv_int, (hh.cv 1 rfl), (hh.cv 2 rfl), (hh.cv 3 rfl), cv_int, trivial⟩)) rfl rfl rfl rfl) ?_
          refine JL_nil ?_
          refine N_then ?_
          refine J_seq ?_
          refine J_region ?_
          refine JL_q (wants_none rfl) rfl (ex_fieldAddr fi_68_0 rfl rfl) ?_
          refine JL_q (wants_none rfl) rfl (ex_load_bx 0 ti_2 rfl rfl rfl) ?_
          refine JL_q (wants_none rfl) rfl (ex_build si_101 rfl (.cons fi_101_0 rfl rfl .nil) (fun w hh => ⟨cv_int, trivial⟩)) ?_
          refine JL_st (wants_none rfl) rfl (st_alloc zi_101 rfl) (fun b28 => ?_)
          refine JL_sk (wants_none rfl) (sk_store_bx' 0 ti_101 rfl rfl (fun w hh => (cv_aggs ⟨cv_int, cv_int, cv_int, cv_int, trivial⟩)) rfl rfl rfl rfl) ?_
          refine JL_nil ?_
          refine N_then ?_
          refine J_seq ?_
          refine J_draw [0] (by kernel_rfl) ?_
          refine JP_take (i := 0) [1, 2, 3, 4, 5, 6, 7, 8, 9, 10, 11, 12] [0] rfl (by kernel_rfl) (by kernel_rfl) (by kernel_rfl) rfl rfl (wants_none rfl) rfl (ex_fieldAddr fi_101_1 rfl rfl) ?_
          refine JP_take (i := 1) [1, 2, 3, 4, 5, 6, 7, 8, 9, 10, 11, 12] [0] rfl (by kernel_rfl) (by kernel_rfl) (by kernel_rfl) rfl rfl (wants_none rfl) rfl (ex_slice_bx Try.underlying99 ti_2 rfl) ?_
          refine JP_take (i := 2) [1, 2, 3, 4, 5, 6, 7, 8, 9, 10, 11, 12] [0] rfl (by kernel_rfl) (by kernel_rfl) (by kernel_rfl) rfl rfl (wants_none rfl) rfl (ex_fieldAddr fi_68_1 rfl rfl) ?_
          refine JP_take (i := 3) [1, 2, 3, 4, 5, 6, 7, 8, 9, 10, 11, 12] [0] rfl (by kernel_rfl) (by kernel_rfl) (by kernel_rfl) rfl rfl (wants_none rfl) rfl (ex_load_bx 0 ti_66 rfl rfl rfl) ?_
          refine JP_go [1, 2, 3, 4, 5, 6, 7, 8, 9, 10, 11, 12] [0] rfl rfl rfl (fun w30 h1_31 hp29 => ?_)
          refine JD_one (i := 4) (by kernel_rfl) ?_
          refine JO_st rfl (wants_none rfl) rfl (st_copy_bx [0, 0, 0] 0 Try.underlying66 ti_2 rfl rfl rfl rfl rfl rfl rfl (fun w hh => hh.src_rd 2 rfl)) (sub_bx 0 rfl) (fun _ => ?_)
          refine JD_done (by kernel_rfl) ?_
          refine N_then ?_
          refine J_region ?_
          refine JL_q (wants_none rfl) rfl (ex_move rfl) ?_
          refine JL_q (wants_none rfl) rfl (ex_load_bx_agg 0 ti_101 rfl rfl rfl rfl) ?_
          refine JL_q (wants_none rfl) rfl (ex_move rfl) ?_
          refine JL_sk (wants_none rfl) (sk_mapUpdate (x := (⟨y23.State, (y23.Read.getD 0 0), (y23.Read.getD 1 0), (y23.Read.getD 2 0)⟩ : Greading)) (y := s20.2) 6 key_101 Try.underlying97 rfl rfl rfl rfl rfl rfl rfl rfl) ?_
          refine JL_nil ?_
          refine N_block ?_
          refine N_then ?_
          refine J_region ?_
          refine JL_q (wants_none rfl) rfl (ex_add rfl rfl) ?_
          refine JL_q (wants_none rfl) rfl (ex_move rfl) ?_
          refine JL_nil ?_
          exact N_next' () ⟨rfl, rfl, rfl, rfl, trivial⟩ [6, 7, 8, 9, 10, 11, 12] rfl rfl
        · refine J_exit ?_
          refine N_then_exit ?_
          exact N_break' () ⟨rfl, rfl, rfl, rfl, trivial⟩ [0, 1, 2, 3, 4, 5, 6] rfl rfl
      · refine N_then ?_
        refine J_seq ?_
        refine J_region ?_
        refine JL_q (wants_none rfl) rfl (ex_move rfl) ?_
        refine JL_q (wants_none rfl) rfl (ex_assign rfl) ?_
        refine JL_nil ?_
        refine N_then ?_
        refine J_ret ?_
        refine N_inl1 hK17 rfl (rv_tmp rfl) ?_
        refine JL_q (wants_none rfl) rfl (ex_assign rfl) ?_
        refine JL_nil ?_
        refine N_then ?_
        refine J_seq ?_
        refine J_region ?_
        refine JL_q (wants_none rfl) rfl (ex_assign rfl) ?_
        refine JL_nil ?_
        refine N_then ?_
        refine J_loop' (S := Int × (List GTape) × (List GMultiConfig) × Int) (G := Value × List Nat × Value × List Nat) (F_impl_TraceMulti_L2 p0 p2 s20) (fun s32 g33 => [(1, .pointer (some ⟨b13, 0, none⟩)), (2, .int .i64 p2), (3, .func (.func 48) #[] #[.pointer (some ⟨b14, 0, none⟩)]), (4, .pointer (some ⟨b16, 0, none⟩)), (11, .map (some b19)), (12, .int .i64 s32.2.2.2)]) (fun s32 g33 => [mkr g33.1 s32.2.1 g33.2.1, .bx b13 32 [.int .i64 s32.1, g33.1], .od 32 g33.2.2.1 s32.2.2.1 g33.2.2.2, .bx b14 48 [g33.2.2.1], .rd v0_0 p0.Rules, .bx b16 37 [.int .i64 p0.Tapes, .int .i64 p0.Symbols, .int .i64 p0.States, v0_0], mpf Greading.enc (Value.int .i64) b19 s20.1]) (r9.State, r9.Tapes, ([] : List GMultiConfig), 0) (x11_0, x11_1, (.slice (some ⟨b12, 0, none⟩) 0 0), ([] : List Nat)) ⟨rfl, rfl, rfl, rfl, rfl, rfl, trivial⟩ [4, 5, 2, 3, 1, 6, 0] rfl rfl (fun s32 g33 => ?_) (fun s32 g33 => ?_)
        · obtain ⟨g33_0, g33_1, g33_2, g33_3⟩ := g33
          unfold F_impl_TraceMulti_L2
          refine J_seq ?_
          refine J_block ?_
          refine J_seq ?_
          refine J_region ?_
          refine JL_q (wants_none rfl) rfl (ex_move rfl) ?_
          refine JL_q (wants_none rfl) rfl (ex_move rfl) ?_
          refine JL_q (wants_none rfl) rfl (ex_nilCheck rfl) ?_
          refine JL_q (wants_none rfl) rfl (ex_load_bx_agg 1 ti_32 rfl rfl rfl rfl) ?_
          refine JL_inlinev (args := [_]) (caps := [.pointer (some ⟨b14, 0, none⟩)]) (wants_none rfl) rfl Try.call48 rfl rfl Try.func48 rfl Try.ntmps48 rfl rfl (fun K_ hK34 => ?_)
          refine J_seq ?_
          refine J_region ?_
          refine JL_st (wants_none rfl) rfl (st_box' rfl (fun w hh => (cv_aggs ⟨cv_int, (hh.cv_mk 0 rfl), trivial⟩))) (fun b35 => ?_)
          refine JL_nil ?_
          refine N_then ?_
          refine J_draw [3, 4] (by kernel_rfl) ?_
          refine JP_take (i := 1) [0, 1, 2, 5, 6, 7] [3, 4] rfl (by kernel_rfl) (by kernel_rfl) (by kernel_rfl) rfl rfl (wants_none rfl) rfl (ex_load_bx_agg 0 ti_32 rfl rfl rfl rfl) ?_
          refine JP_go [0, 1, 2, 5, 6, 7] [3, 4] rfl rfl rfl (fun w37 h1_38 hp36 => ?_)
          refine JD_bnd fun r39 hr40 => ?_
          refine JD_two (i := 0) (j := 2) (by kernel_rfl) ?_ ?_
          · refine JO_q rfl (wants_none rfl) rfl (ex_load_bx 4 ti_48 rfl rfl rfl) ?_
            refine JD_one (i := 2) (by kernel_rfl) ?_
            refine JO_call rfl (wants_none rfl) rfl Try.call32 rfl (Ca_self (fun _ => rfl) fun w hh => c_impl_copyMultiConfig _ w (fun _ hk => hk.elim) _ _ (GMultiConfig.rdmk (Rd.mk_int _ _ _) (hh.mk0 1 rfl)) _ hr40) (fun x41 => ?_)
            obtain ⟨x41_0, x41_1⟩ := x41
            refine JD_one (i := 3) (by kernel_rfl) ?_
            refine JO_ctx (fun w hh => hh.tok 0 rfl) (tok_owns (i := 0) rfl) ?_
            refine JO_st rfl (wants_none rfl) rfl (st_buildSlice_od (vs := [.agg #[.int .i64 r39.State, x41_0]]) (B := (((x41_0 : Value).ownBlock.toList ++ x41_1) ++ [])) ([r39] : List GMultiConfig) [0] Try.underlying48 ti_32 zi_32 rfl rfl rfl rfl rfl (fun w hh => (dwv_cons (GMultiConfig.dw (hh.dw 0 rfl)) dwv_nil))) (fun _ hk => nomatch hk) (fun b42 => ?_)
            refine JD_bnd fun z43 hz44 => ?_
            refine JD_one (i := 4) (by kernel_rfl) ?_
            refine JO_st rfl (wants_none rfl) rfl (st_append_od 6 0 Try.underlying48 ti_32 zi_32 rfl bi_32 rfl rfl rfl rfl rfl rfl hz44) (sub_od 0 rfl) (fun v45 => ?_)
            refine JD_one (i := 5) (by kernel_rfl) ?_
            refine JO_sk rfl (wants_none rfl) (sk_store_bx' 7 ti_48 rfl rfl (fun w hh => (hh.cv_od 6 rfl)) rfl rfl rfl rfl) (sub_bx 1 rfl) ?_
            refine JD_done (by kernel_rfl) ?_
            refine N_inl0 (.inr rfl) hK34 rfl ?_
            refine JL_nil ?_
            refine N_then ?_
            refine J_seq ?_
            refine J_region ?_
            refine JL_q (wants_none rfl) rfl (ex_move rfl) ?_
            refine JL_q (wants_none rfl) rfl (ex_move rfl) ?_
            refine JL_bnd fun r46 hr47 => ?_
            refine JL_call (wants_none rfl) rfl Try.call58 rfl (Ca_of0 fun w hh => c_impl_MultiConfig_read _ w (fun _ hk => hk.elim) _ _ (hh.bx_pa 5 rfl (GMultiConfig.rdmk (Rd.mk_int _ _ _) (hh.mk0 4 rfl)) rfl) _ hr47) (fun _ => ?_)
            refine JL_q (wants_none rfl) rfl (ex_lookup_ok (x := r46) (z := 0) 10 key_101 Try.underlying97 zi_2 rfl rfl rfl rfl rfl) ?_
            refine JL_q (wants_none rfl) rfl (ex_move rfl) ?_
            refine JL_q (wants_none rfl) rfl (ex_extract rfl rfl) ?_
            refine JL_q (wants_none rfl) rfl (ex_extract rfl rfl) ?_
            refine JL_q (wants_none rfl) rfl (ex_assign rfl) ?_
            refine JL_q (wants_none rfl) rfl (ex_assign rfl) ?_
            refine JL_nil ?_
            refine N_then ?_
            refine J_seq ?_
            refine J_seq ?_
            refine J_region ?_
            refine JL_q (wants_none rfl) rfl (ex_move rfl) ?_
            refine JL_q (wants_none rfl) rfl (ex_not rfl) ?_
            refine JL_q (wants_none rfl) rfl (ex_move rfl) ?_
            refine JL_cond (fun h48 => ?_) (fun h48 => ?_)
            · refine JL_passed rfl rfl rfl h48 ?_
              refine JL_passed rfl rfl rfl h48 ?_
              refine JL_passed rfl rfl rfl h48 ?_
              refine JL_q (wants_none rfl) rfl (ex_pick_true rfl h48 rfl) ?_
              refine JL_nil ?_
              refine N_then ?_
              refine J_if_true rfl rfl ?_
              refine J_seq ?_
              refine J_region ?_
              refine JL_q (wants_none rfl) rfl (ex_move rfl) ?_
              refine JL_q (wants_none rfl) rfl (ex_move rfl) ?_
              refine JL_q (wants_none rfl) rfl (ex_not rfl) ?_
              refine JL_q (wants_none rfl) rfl (ex_assign rfl) ?_
              refine JL_q (wants_none rfl) rfl (ex_assign rfl) ?_
              refine JL_q (wants_none rfl) rfl (ex_assign rfl) ?_
              refine JL_nil ?_
              refine N_then ?_
              refine J_ret ?_
              refine N_then_ret ?_
              refine N_block_ret ?_
              refine N_then_ret ?_
              refine N_round_reti ?_
              refine N_inl3 hK15 rfl (rv_tmp rfl) (rv_tmp rfl) (rv_tmp rfl) ?_
              refine JL_q (wants_none rfl) rfl (ex_move rfl) ?_
              refine JL_q (wants_none rfl) rfl (ex_extract rfl rfl) ?_
              refine JL_q (wants_none rfl) rfl (ex_extract rfl rfl) ?_
              refine JL_q (wants_none rfl) rfl (ex_extract rfl rfl) ?_
              refine JL_q (wants_none rfl) rfl (ex_assign rfl) ?_
              refine JL_q (wants_none rfl) rfl (ex_assign rfl) ?_
              refine JL_q (wants_none rfl) rfl (ex_assign rfl) ?_
              refine JL_nil ?_
              refine N_then ?_
              refine J_seq ?_
              refine J_seq ?_
              refine J_region ?_
              refine JL_q (wants_none rfl) rfl (ex_move rfl) ?_
              refine JL_q (wants_none rfl) rfl (ex_neq rfl rfl) ?_
              refine JL_nil ?_
              refine N_then ?_
              refine J_if_false rfl (by decide) ?_
              refine J_skip ?_
              refine N_then ?_
              refine J_seq ?_
              refine J_region ?_
              refine JL_q (wants_none rfl) rfl (ex_load_bx 7 ti_48 rfl rfl rfl) ?_
              refine JL_q (wants_none rfl) rfl (ex_assign rfl) ?_
              refine JL_q (wants_none rfl) rfl (ex_assign rfl) ?_
              refine JL_nil ?_
              refine N_then ?_
              refine J_ret ?_
              exact N_ret2 rfl (rv_tmp rfl) (rv_tmp rfl) (fun w hh => ⟨(v45, (g33_3 ++ (((x41_0 : Value).ownBlock.toList ++ x41_1) ++ []))), rfl, hh.sel [6] rfl⟩)
            · refine JL_q (wants_some rfl rfl rfl h48) rfl (ex_move rfl) ?_
              refine JL_q (wants_some rfl rfl rfl h48) rfl (ex_move rfl) ?_
              refine JL_q (wants_some rfl rfl rfl h48) rfl (ex_eql rfl rfl) ?_
              refine JL_q (wants_none rfl) rfl (ex_pick_false rfl h48 rfl) ?_
              refine JL_nil ?_
              refine N_then ?_
              refine J_if rfl (fun h49 => ?_) (fun h49 => ?_)
              · refine J_seq ?_
                refine J_region ?_
                refine JL_q (wants_none rfl) rfl (ex_move rfl) ?_
                refine JL_q (wants_none rfl) rfl (ex_move rfl) ?_
                refine JL_q (wants_none rfl) rfl (ex_not rfl) ?_
                refine JL_q (wants_none rfl) rfl (ex_assign rfl) ?_
                refine JL_q (wants_none rfl) rfl (ex_assign rfl) ?_
                refine JL_q (wants_none rfl) rfl (ex_assign rfl) ?_
                refine JL_nil ?_
                refine N_then ?_
                refine J_ret ?_
                refine N_then_ret ?_
                refine N_block_ret ?_
                refine N_then_ret ?_
                refine N_round_reti ?_
                refine N_inl3 hK15 rfl (rv_tmp rfl) (rv_tmp rfl) (rv_tmp rfl) ?_
                refine JL_q (wants_none rfl) rfl (ex_move rfl) ?_
                refine JL_q (wants_none rfl) rfl (ex_extract rfl rfl) ?_
                refine JL_q (wants_none rfl) rfl (ex_extract rfl rfl) ?_
                refine JL_q (wants_none rfl) rfl (ex_extract rfl rfl) ?_
                refine JL_q (wants_none rfl) rfl (ex_assign rfl) ?_
                refine JL_q (wants_none rfl) rfl (ex_assign rfl) ?_
                refine JL_q (wants_none rfl) rfl (ex_assign rfl) ?_
                refine JL_nil ?_
                refine N_then ?_
                refine J_seq ?_
                refine J_seq ?_
                refine J_region ?_
                refine JL_q (wants_none rfl) rfl (ex_move rfl) ?_
                refine JL_q (wants_none rfl) rfl (ex_neq rfl rfl) ?_
                refine JL_nil ?_
                refine N_then ?_
                refine J_if_false rfl (by decide) ?_
                refine J_skip ?_
                refine N_then ?_
                refine J_seq ?_
                refine J_region ?_
                refine JL_q (wants_none rfl) rfl (ex_load_bx 7 ti_48 rfl rfl rfl) ?_
                refine JL_q (wants_none rfl) rfl (ex_assign rfl) ?_
                refine JL_q (wants_none rfl) rfl (ex_assign rfl) ?_
                refine JL_nil ?_
                refine N_then ?_
                refine J_ret ?_
                exact N_ret2 rfl (rv_tmp rfl) (rv_tmp rfl) (fun w hh => ⟨(v45, (g33_3 ++ (((x41_0 : Value).ownBlock.toList ++ x41_1) ++ []))), rfl, hh.sel [6] rfl⟩)
              · refine J_skip ?_
                refine N_then ?_
                refine J_seq ?_
                refine J_region ?_
                refine JL_q (wants_none rfl) rfl (ex_move rfl) ?_
                refine JL_q (wants_none rfl) rfl (ex_fieldAddr fi_37_3 rfl rfl) ?_
                refine JL_q (wants_none rfl) rfl (ex_load_bx 9 ti_35 rfl rfl rfl) ?_
                refine JL_q (wants_none rfl) rfl (ex_move rfl) ?_
                refine JL_bnd fun y50 hy51 => ?_
                refine JL_st (wants_none rfl) rfl (st_index 8 Try.underlying35 ti_68 rfl rfl rfl hy51) (fun q52 => ?_)
                refine JL_st (wants_none rfl) rfl (st_load_pt_o 0 (GMultiRule.opens _) ti_68 rfl rfl) (fun v53 => ?_)
                refine JL_inline (wants_none rfl) rfl Try.call33 rfl Try.func33 rfl Try.ntmps33 rfl rfl (fun K_ hK54 => ?_)
                refine J_seq ?_
                refine J_region ?_
                refine JL_st (wants_none rfl) rfl (st_box' rfl (fun w hh => (cv_aggs ⟨cv_int, (hh.cv 0 rfl), (hh.cv 1 rfl), (hh.cv 2 rfl), cv_int, trivial⟩))) (fun b55 => ?_)
                refine JL_q (wants_none rfl) rfl (ex_assign rfl) ?_
                refine JL_nil ?_
                refine N_then ?_
                refine J_seq ?_
                refine J_region ?_
                refine JL_q (wants_none rfl) rfl (ex_assign rfl) ?_
                refine JL_nil ?_
                refine N_then ?_
                refine J_seq ?_
                refine J_seq ?_
                refine J_region ?_
                refine JL_q (wants_none rfl) rfl (ex_move rfl) ?_
                refine JL_q (wants_none rfl) rfl (ex_nilCheck rfl) ?_
                refine JL_q (wants_none rfl) rfl (ex_fieldAddr fi_32_1 rfl rfl) ?_
                refine JL_q (wants_none rfl) rfl (ex_load_bx 10 ti_30 rfl rfl rfl) ?_
                refine JL_q (wants_none rfl) rfl (ex_len_mk 9 Try.underlying30 rfl rfl) ?_
                refine JL_q (wants_none rfl) rfl (ex_move rfl) ?_
                refine JL_nil ?_
                refine N_then ?_
                refine J_loop' (S := (List GTape) × Bool × Int) (G := Value × List Nat) (F_impl_TraceMulti_L3 s32 y50) (fun s56 g57 => [(0, .pointer (some ⟨b13, 0, none⟩)), (3, .pointer (some ⟨b55, 0, none⟩)), (5, .bool s56.2.1), (12, .int .i64 (s32.2.1.length : Int)), (13, .int .i64 s56.2.2)]) (fun s56 g57 => [mkr g57.1 s56.1 g57.2, .bx b13 32 [.int .i64 s32.1, g57.1], .rd v53.1 y50.Read, .rd v53.2.1 y50.Write, .rd v53.2.2 y50.Move, .bx b55 68 [.int .i64 y50.State, v53.1, v53.2.1, v53.2.2, .int .i64 y50.Next], .od 32 v45 z43 (g33_3 ++ (((x41_0 : Value).ownBlock.toList ++ x41_1) ++ [])), .bx b14 48 [v45], .rd v0_0 p0.Rules, .bx b16 37 [.int .i64 p0.Tapes, .int .i64 p0.Symbols, .int .i64 p0.States, v0_0], mpf Greading.enc (Value.int .i64) b19 s20.1]) (s32.2.1, true, 0) (g33_0, g33_1) ⟨rfl, rfl, rfl, rfl, rfl, trivial⟩ [9, 10, 1, 2, 3, 0, 11, 12, 13, 14, 15] rfl rfl (fun s56 g57 => ?_) (fun s56 g57 => ?_)
                · obtain ⟨g57_0, g57_1⟩ := g57
                  unfold F_impl_TraceMulti_L3
                  refine J_seq ?_
                  refine J_region ?_
                  refine JL_q (wants_none rfl) rfl (ex_lss rfl rfl) ?_
                  refine JL_nil ?_
                  refine N_then ?_
                  refine J_seq ?_
                  refine J_if rfl (fun h58 => ?_) (fun h58 => ?_)
                  · refine J_skip ?_
                    refine N_then ?_
                    refine J_seq ?_
                    refine J_block ?_
                    refine J_seq ?_
                    refine J_region ?_
                    refine JL_q (wants_none rfl) rfl (ex_move rfl) ?_
                    refine JL_q (wants_none rfl) rfl (ex_assign rfl) ?_
                    refine JL_nil ?_
                    refine N_then ?_
                    refine J_seq ?_
                    refine J_region ?_
                    refine JL_q (wants_none rfl) rfl (ex_move rfl) ?_
                    refine JL_q (wants_none rfl) rfl (ex_nilCheck rfl) ?_
                    refine JL_q (wants_none rfl) rfl (ex_fieldAddr fi_32_1 rfl rfl) ?_
                    refine JL_q (wants_none rfl) rfl (ex_load_bx 1 ti_30 rfl rfl rfl) ?_
                    refine JL_q (wants_none rfl) rfl (ex_move rfl) ?_
                    refine JL_bnd fun y59 hy60 => ?_
                    refine JL_mk_open 0 rfl hy60 ?_; rintro b61 o63 cap62 rfl
                    refine JL_hole 0 rfl hy60 rfl (GTape.two _) ?_; intro L64 R65 v66 v67 C68 C69 Ba70 Bb71 tt72 hL73
                    refine JL_q (wants_none rfl) rfl (ex_index_hole Try.underlying30 ti_91 rfl rfl hy60 rfl hL73) ?_
                    refine JL_q (wants_none rfl) rfl (ex_assign rfl) ?_
                    refine JL_nil ?_
                    refine N_then ?_
                    refine J_seq ?_
                    refine J_draw [0, 1, 2] (by kernel_rfl) ?_
                    refine JP_take (i := 0) [3, 4, 5, 6, 7, 8, 9, 10, 11, 12, 13, 14] [0, 1, 2] rfl (by kernel_rfl) (by kernel_rfl) (by kernel_rfl) rfl rfl (wants_none rfl) rfl (ex_move rfl) ?_
                    refine JP_take (i := 1) [3, 4, 5, 6, 7, 8, 9, 10, 11, 12, 13, 14] [0, 1, 2] rfl (by kernel_rfl) (by kernel_rfl) (by kernel_rfl) rfl rfl (wants_none rfl) rfl (ex_fieldAddr fi_68_2 rfl rfl) ?_
                    refine JP_take (i := 2) [3, 4, 5, 6, 7, 8, 9, 10, 11, 12, 13, 14] [0, 1, 2] rfl (by kernel_rfl) (by kernel_rfl) (by kernel_rfl) rfl rfl (wants_none rfl) rfl (ex_load_bx 6 ti_66 rfl rfl rfl) ?_
                    refine JP_take (i := 3) [3, 4, 5, 6, 7, 8, 9, 10, 11, 12, 13, 14] [0, 1, 2] rfl (by kernel_rfl) (by kernel_rfl) (by kernel_rfl) rfl rfl (wants_none rfl) rfl (ex_move rfl) ?_
                    refine JP_bnd fun y74 hy75 => ?_
                    refine JP_sq (i := 4) [0, 1, 2] rfl (by kernel_rfl) (by kernel_rfl) (by kernel_rfl) rfl (wants_none rfl) rfl (sq_index 7 Try.underlying66 ti_2 rfl rfl rfl hy75) (fun q76 => ?_)
                    refine JP_sq (i := 5) [1, 2, 3] rfl (by kernel_rfl) (by kernel_rfl) (by kernel_rfl) rfl (wants_none rfl) rfl (sq_load_pt_o 0 (opens_int _) ti_2 rfl rfl) (fun _ => ?_)
                    refine JP_take (i := 6) [0, 4, 5, 6, 7, 8, 9, 10, 11, 12, 13, 14, 15] [1, 2, 3] rfl (by kernel_rfl) (by kernel_rfl) (by kernel_rfl) rfl rfl (wants_none rfl) rfl (ex_fieldAddr fi_68_3 rfl rfl) ?_
                    refine JP_take (i := 7) [0, 4, 5, 6, 7, 8, 9, 10, 11, 12, 13, 14, 15] [1, 2, 3] rfl (by kernel_rfl) (by kernel_rfl) (by kernel_rfl) rfl rfl (wants_none rfl) rfl (ex_load_bx 7 ti_66 rfl rfl rfl) ?_
                    refine JP_take (i := 8) [0, 4, 5, 6, 7, 8, 9, 10, 11, 12, 13, 14, 15] [1, 2, 3] rfl (by kernel_rfl) (by kernel_rfl) (by kernel_rfl) rfl rfl (wants_none rfl) rfl (ex_move rfl) ?_
                    refine JP_bnd fun y78 hy79 => ?_
                    refine JP_sq (i := 9) [1, 2, 3] rfl (by kernel_rfl) (by kernel_rfl) (by kernel_rfl) rfl (wants_none rfl) rfl (sq_index 9 Try.underlying66 ti_2 rfl rfl rfl hy79) (fun q80 => ?_)
                    refine JP_sq (i := 10) [2, 3, 4] rfl (by kernel_rfl) (by kernel_rfl) (by kernel_rfl) rfl (wants_none rfl) rfl (sq_load_pt_o 0 (opens_int _) ti_2 rfl rfl) (fun _ => ?_)
                    refine JP_go [0, 1, 5, 6, 7, 8, 9, 10, 11, 12, 13, 14, 15, 16] [2, 3, 4] rfl rfl rfl (fun w83 h1_84 hp82 => ?_)
                    refine JD_bnd fun r85 hr86 => ?_
                    refine JD_one (i := 11) (by kernel_rfl) ?_
                    refine JO_callT rfl (wants_none rfl) rfl Try.call60 rfl (CaT_of [2, 3, 4] [0, 1, 5, 6, 7, 8, 9, 10, 11, 12, 13, 14, 15, 16] rfl rfl (fun _ => rfl) fun w hh => c_impl_Tape_write w b61 y59 L64 R65 tt72 v66 C68 v67 C69 _ rfl (hh.handed [2, 3, 4] rfl rfl rfl rfl) _ _ _ hr86) (fun k hk => (List.mem_append.1 hk).elim ((sub_bx 0 rfl) k) ((fun k hk => (List.mem_append.1 hk).elim ((sub_mk 1 rfl) k) ((fun k hk => (List.mem_append.1 hk).elim ((sub_mk 2 rfl) k) ((fun k hk => absurd hk List.not_mem_nil) k)) k)) k)) (fun x87 => ?_)
                    obtain ⟨x87_0, x87_1, x87_2, x87_3⟩ := x87
                    refine JD_done (by kernel_rfl) ?_
                    refine N_then ?_
                    refine J_region ?_
                    refine JL_q (wants_none rfl) rfl (ex_move rfl) ?_
                    refine JL_q (wants_none rfl) rfl (ex_move rfl) ?_
                    refine JL_cond (fun h88 => ?_) (fun h88 => ?_)
                    · refine JL_q (wants_some rfl rfl rfl h88) rfl (ex_move rfl) ?_
                      refine JL_q (wants_some rfl rfl rfl h88) rfl (ex_nilCheck rfl) ?_
                      refine JL_q (wants_some rfl rfl rfl h88) rfl (ex_fieldAddr fi_91_0 rfl rfl) ?_
                      refine JL_q (wants_some rfl rfl rfl h88) rfl (ex_load_bx 0 ti_66 rfl rfl (app_at (j := 0) rfl)) ?_
                      refine JL_q (wants_some rfl rfl rfl h88) rfl (ex_len_mk 1 Try.underlying66 rfl rfl) ?_
                      refine JL_q (wants_some rfl rfl rfl h88) rfl (ex_leq rfl rfl) ?_
                      refine JL_q (wants_none rfl) rfl (ex_pick_true rfl h88 rfl) ?_
                      refine JL_q (wants_none rfl) rfl (ex_move rfl) ?_
                      refine JL_cond (fun h89 => ?_) (fun h89 => ?_)
                      · refine JL_q (wants_some rfl rfl rfl h89) rfl (ex_move rfl) ?_
                        refine JL_q (wants_some rfl rfl rfl h89) rfl (ex_nilCheck rfl) ?_
                        refine JL_q (wants_some rfl rfl rfl h89) rfl (ex_fieldAddr fi_91_1 rfl rfl) ?_
                        refine JL_q (wants_some rfl rfl rfl h89) rfl (ex_load_bx 0 ti_66 rfl rfl (app_at (j := 1) rfl)) ?_
                        refine JL_q (wants_some rfl rfl rfl h89) rfl (ex_len_mk 2 Try.underlying66 rfl rfl) ?_
                        refine JL_q (wants_some rfl rfl rfl h89) rfl (ex_leq rfl rfl) ?_
                        refine JL_q (wants_none rfl) rfl (ex_pick_true rfl h89 rfl) ?_
                        refine JL_q (wants_none rfl) rfl (ex_assign rfl) ?_
                        refine JL_nil ?_
                        refine N_block ?_
                        refine N_then ?_
                        refine J_region ?_
                        refine JL_q (wants_none rfl) rfl (ex_add rfl rfl) ?_
                        refine JL_q (wants_none rfl) rfl (ex_move rfl) ?_
                        refine JL_nil ?_
                        refine N_ctx (fun w2_ hh => SH.hole_close (idx_eq hy60).2.1 (GTape.two (⟨r85.2.1, r85.2.2⟩ : GTape)) (show SH _ _ w2_ [.bx b61 tt72 (L64 ++ [x87_0, x87_2] ++ R65), mkr x87_0 r85.2.1 x87_1, mkr x87_2 r85.2.2 x87_3, hol o63 cap62 s56.1 s56.2.2.toNat L64 R65 Ba70 Bb71, .pt q80 y78, .pt q76 y74, .bx b13 32 [.int .i64 s32.1, (.slice (some ⟨b61, o63, none⟩) s56.1.length cap62)], .rd v53.1 y50.Read, .rd v53.2.1 y50.Write, .rd v53.2.2 y50.Move, .bx b55 68 [.int .i64 y50.State, v53.1, v53.2.1, v53.2.2, .int .i64 y50.Next], .od 32 v45 z43 (g33_3 ++ (((x41_0 : Value).ownBlock.toList ++ x41_1) ++ [])), .bx b14 48 [v45], .rd v0_0 p0.Rules, .bx b16 37 [.int .i64 p0.Tapes, .int .i64 p0.Symbols, .int .i64 p0.States, v0_0], mpf Greading.enc (Value.int .i64) b19 s20.1] from hh.sel [0, 1, 2, 5, 3, 4, 7, 8, 9, 10, 11, 12, 13, 14, 15, 16] rfl)) ?_
                        exact N_next' ((.slice (some ⟨b61, o63, none⟩) s56.1.length cap62), (b61 :: (Ba70 ++ (x87_1 ++ x87_3 ++ Bb71)))) ⟨rfl, rfl, rfl, rfl, rfl, trivial⟩ [0, 3, 4, 5, 6, 7, 8, 9, 10, 11, 12] rfl rfl
                      · refine JL_passed rfl rfl rfl h89 ?_
                        refine JL_passed rfl rfl rfl h89 ?_
                        refine JL_passed rfl rfl rfl h89 ?_
                        refine JL_passed rfl rfl rfl h89 ?_
                        refine JL_passed rfl rfl rfl h89 ?_
                        refine JL_passed rfl rfl rfl h89 ?_
                        refine JL_q (wants_none rfl) rfl (ex_pick_false rfl h89 rfl) ?_
                        refine JL_q (wants_none rfl) rfl (ex_assign rfl) ?_
                        refine JL_nil ?_
                        refine N_block ?_
                        refine N_then ?_
                        refine J_region ?_
                        refine JL_q (wants_none rfl) rfl (ex_add rfl rfl) ?_
                        refine JL_q (wants_none rfl) rfl (ex_move rfl) ?_
                        refine JL_nil ?_
                        refine N_ctx (fun w2_ hh => SH.hole_close (idx_eq hy60).2.1 (GTape.two (⟨r85.2.1, r85.2.2⟩ : GTape)) (show SH _ _ w2_ [.bx b61 tt72 (L64 ++ [x87_0, x87_2] ++ R65), mkr x87_0 r85.2.1 x87_1, mkr x87_2 r85.2.2 x87_3, hol o63 cap62 s56.1 s56.2.2.toNat L64 R65 Ba70 Bb71, .pt q80 y78, .pt q76 y74, .bx b13 32 [.int .i64 s32.1, (.slice (some ⟨b61, o63, none⟩) s56.1.length cap62)], .rd v53.1 y50.Read, .rd v53.2.1 y50.Write, .rd v53.2.2 y50.Move, .bx b55 68 [.int .i64 y50.State, v53.1, v53.2.1, v53.2.2, .int .i64 y50.Next], .od 32 v45 z43 (g33_3 ++ (((x41_0 : Value).ownBlock.toList ++ x41_1) ++ [])), .bx b14 48 [v45], .rd v0_0 p0.Rules, .bx b16 37 [.int .i64 p0.Tapes, .int .i64 p0.Symbols, .int .i64 p0.States, v0_0], mpf Greading.enc (Value.int .i64) b19 s20.1] from hh.sel [0, 1, 2, 5, 3, 4, 7, 8, 9, 10, 11, 12, 13, 14, 15, 16] rfl)) ?_
                        exact N_next' ((.slice (some ⟨b61, o63, none⟩) s56.1.length cap62), (b61 :: (Ba70 ++ (x87_1 ++ x87_3 ++ Bb71)))) ⟨rfl, rfl, rfl, rfl, rfl, trivial⟩ [0, 3, 4, 5, 6, 7, 8, 9, 10, 11, 12] rfl rfl
                    · refine JL_passed rfl rfl rfl h88 ?_
                      refine JL_passed rfl rfl rfl h88 ?_
                      refine JL_passed rfl rfl rfl h88 ?_
                      refine JL_passed rfl rfl rfl h88 ?_
                      refine JL_passed rfl rfl rfl h88 ?_
                      refine JL_passed rfl rfl rfl h88 ?_
                      refine JL_q (wants_none rfl) rfl (ex_pick_false rfl h88 rfl) ?_
                      refine JL_q (wants_none rfl) rfl (ex_move rfl) ?_
                      refine JL_passed rfl rfl rfl rfl ?_
                      refine JL_passed rfl rfl rfl rfl ?_
                      refine JL_passed rfl rfl rfl rfl ?_
                      refine JL_passed rfl rfl rfl rfl ?_
                      refine JL_passed rfl rfl rfl rfl ?_
                      refine JL_passed rfl rfl rfl rfl ?_
                      refine JL_q (wants_none rfl) rfl (ex_pick_false rfl rfl rfl) ?_
                      refine JL_q (wants_none rfl) rfl (ex_assign rfl) ?_
                      refine JL_nil ?_
                      refine N_block ?_
                      refine N_then ?_
                      refine J_region ?_
                      refine JL_q (wants_none rfl) rfl (ex_add rfl rfl) ?_
                      refine JL_q (wants_none rfl) rfl (ex_move rfl) ?_
                      refine JL_nil ?_
                      refine N_ctx (fun w2_ hh => SH.hole_close (idx_eq hy60).2.1 (GTape.two (⟨r85.2.1, r85.2.2⟩ : GTape)) (show SH _ _ w2_ [.bx b61 tt72 (L64 ++ [x87_0, x87_2] ++ R65), mkr x87_0 r85.2.1 x87_1, mkr x87_2 r85.2.2 x87_3, hol o63 cap62 s56.1 s56.2.2.toNat L64 R65 Ba70 Bb71, .pt q80 y78, .pt q76 y74, .bx b13 32 [.int .i64 s32.1, (.slice (some ⟨b61, o63, none⟩) s56.1.length cap62)], .rd v53.1 y50.Read, .rd v53.2.1 y50.Write, .rd v53.2.2 y50.Move, .bx b55 68 [.int .i64 y50.State, v53.1, v53.2.1, v53.2.2, .int .i64 y50.Next], .od 32 v45 z43 (g33_3 ++ (((x41_0 : Value).ownBlock.toList ++ x41_1) ++ [])), .bx b14 48 [v45], .rd v0_0 p0.Rules, .bx b16 37 [.int .i64 p0.Tapes, .int .i64 p0.Symbols, .int .i64 p0.States, v0_0], mpf Greading.enc (Value.int .i64) b19 s20.1] from hh.sel [0, 1, 2, 5, 3, 4, 7, 8, 9, 10, 11, 12, 13, 14, 15, 16] rfl)) ?_
                      exact N_next' ((.slice (some ⟨b61, o63, none⟩) s56.1.length cap62), (b61 :: (Ba70 ++ (x87_1 ++ x87_3 ++ Bb71)))) ⟨rfl, rfl, rfl, rfl, rfl, trivial⟩ [0, 3, 4, 5, 6, 7, 8, 9, 10, 11, 12] rfl rfl
                  · refine J_exit ?_
                    refine N_then_exit ?_
                    exact N_break' (g57_0, g57_1) ⟨rfl, rfl, rfl, rfl, rfl, trivial⟩ [0, 1, 2, 3, 4, 5, 6, 7, 8, 9, 10] rfl rfl
                · obtain ⟨g57_0, g57_1⟩ := g57
                  refine N_then ?_
                  refine J_seq ?_
                  refine J_region ?_
                  refine JL_q (wants_none rfl) rfl (ex_move rfl) ?_
                  refine JL_q (wants_none rfl) rfl (ex_fieldAddr fi_68_4 rfl rfl) ?_
                  refine JL_q (wants_none rfl) rfl (ex_load_bx 5 ti_2 rfl rfl rfl) ?_
                  refine JL_q (wants_none rfl) rfl (ex_nilCheck rfl) ?_
                  refine JL_q (wants_none rfl) rfl (ex_fieldAddr fi_32_0 rfl rfl) ?_
                  refine JL_sk (wants_none rfl) (sk_store_bx' 1 ti_2 rfl rfl (fun w hh => cv_int) rfl rfl rfl rfl) ?_
                  refine JL_nil ?_
                  refine N_then ?_
                  refine J_seq ?_
                  refine J_region ?_
                  refine JL_q (wants_none rfl) rfl (ex_move rfl) ?_
                  refine JL_q (wants_none rfl) rfl (ex_assign rfl) ?_
                  refine JL_nil ?_
                  refine N_then ?_
                  refine J_ret ?_
                  refine N_inl1 hK54 rfl (rv_tmp rfl) ?_
                  refine JL_q (wants_none rfl) rfl (ex_not rfl) ?_
                  refine JL_nil ?_
                  refine N_then ?_
                  refine J_if rfl (fun h90 => ?_) (fun h90 => ?_)
                  · refine J_seq ?_
                    refine J_region ?_
                    refine JL_q (wants_none rfl) rfl (ex_assign rfl) ?_
                    refine JL_q (wants_none rfl) rfl (ex_assign rfl) ?_
                    refine JL_q (wants_none rfl) rfl (ex_assign rfl) ?_
                    refine JL_nil ?_
                    refine N_then ?_
                    refine J_ret ?_
                    refine N_block_ret ?_
                    refine N_then_ret ?_
                    refine N_round_reti ?_
                    refine N_inl3 hK15 rfl (rv_tmp rfl) (rv_tmp rfl) (rv_tmp rfl) ?_
                    refine JL_q (wants_none rfl) rfl (ex_move rfl) ?_
                    refine JL_q (wants_none rfl) rfl (ex_extract rfl rfl) ?_
                    refine JL_q (wants_none rfl) rfl (ex_extract rfl rfl) ?_
                    refine JL_q (wants_none rfl) rfl (ex_extract rfl rfl) ?_
                    refine JL_q (wants_none rfl) rfl (ex_assign rfl) ?_
                    refine JL_q (wants_none rfl) rfl (ex_assign rfl) ?_
                    refine JL_q (wants_none rfl) rfl (ex_assign rfl) ?_
                    refine JL_nil ?_
                    refine N_then ?_
                    refine J_seq ?_
                    refine J_seq ?_
                    refine J_region ?_
                    refine JL_q (wants_none rfl) rfl (ex_move rfl) ?_
                    refine JL_q (wants_none rfl) rfl (ex_neq rfl rfl) ?_
                    refine JL_nil ?_
                    refine N_then ?_
                    refine J_if_true rfl (by decide) ?_
                    refine J_seq ?_
                    refine J_region ?_
                    refine JL_q (wants_none rfl) rfl (ex_move rfl) ?_
                    refine JL_q (wants_none rfl) rfl (ex_assign rfl) ?_
                    refine JL_q (wants_none rfl) rfl (ex_assign rfl) ?_
                    refine JL_nil ?_
                    refine N_then ?_
                    refine J_ret ?_
                    refine N_then_ret ?_
                    refine N_ctx (fun w hh => SH.od_nil (α := GMultiConfig) 32 hh) ?_
                    exact N_ret2 rfl (rv_tmp rfl) (rv_tmp rfl) (fun w hh => ⟨((.slice none 0 0 : Value), ([] : List Nat)), rfl, hh.sel [0] rfl⟩)
                  · refine J_skip ?_
                    refine N_block ?_
                    refine N_then ?_
                    refine J_region ?_
                    refine JL_q (wants_none rfl) rfl (ex_move rfl) ?_
                    refine JL_q (wants_none rfl) rfl (ex_add rfl rfl) ?_
                    refine JL_q (wants_none rfl) rfl (ex_assign rfl) ?_
                    refine JL_nil ?_
                    exact N_next' (g57_0, g57_1, v45, (g33_3 ++ (((x41_0 : Value).ownBlock.toList ++ x41_1) ++ []))) ⟨rfl, rfl, rfl, rfl, rfl, rfl, trivial⟩ [0, 1, 6, 7, 8, 9, 10] rfl rfl
          · refine JO_call rfl (wants_none rfl) rfl Try.call32 rfl (Ca_self (fun _ => rfl) fun w hh => c_impl_copyMultiConfig _ w (fun _ hk => hk.elim) _ _ (GMultiConfig.rdmk (Rd.mk_int _ _ _) (hh.mk0 1 rfl)) _ hr40) (fun x91 => ?_)
            obtain ⟨x91_0, x91_1⟩ := x91
            refine JD_two (i := 0) (j := 3) (by kernel_rfl) ?_ ?_
            · refine JO_q rfl (wants_none rfl) rfl (ex_load_bx 5 ti_48 rfl rfl rfl) ?_
              refine JD_one (i := 3) (by kernel_rfl) ?_
              refine JO_ctx (fun w hh => hh.tok 0 rfl) (tok_owns (i := 0) rfl) ?_
              refine JO_st rfl (wants_none rfl) rfl (st_buildSlice_od (vs := [.agg #[.int .i64 r39.State, x91_0]]) (B := (((x91_0 : Value).ownBlock.toList ++ x91_1) ++ [])) ([r39] : List GMultiConfig) [0] Try.underlying48 ti_32 zi_32 rfl rfl rfl rfl rfl (fun w hh => (dwv_cons (GMultiConfig.dw (hh.dw 0 rfl)) dwv_nil))) (fun _ hk => nomatch hk) (fun b92 => ?_)
              refine JD_bnd fun z93 hz94 => ?_
              refine JD_one (i := 4) (by kernel_rfl) ?_
              refine JO_st rfl (wants_none rfl) rfl (st_append_od 6 0 Try.underlying48 ti_32 zi_32 rfl bi_32 rfl rfl rfl rfl rfl rfl hz94) (sub_od 0 rfl) (fun v95 => ?_)
              refine JD_one (i := 5) (by kernel_rfl) ?_
              refine JO_sk rfl (wants_none rfl) (sk_store_bx' 7 ti_48 rfl rfl (fun w hh => (hh.cv_od 6 rfl)) rfl rfl rfl rfl) (sub_bx 1 rfl) ?_
              refine JD_done (by kernel_rfl) ?_
              refine N_inl0 (.inr rfl) hK34 rfl ?_
              refine JL_nil ?_
              refine N_then ?_
              refine J_seq ?_
              refine J_region ?_
              refine JL_q (wants_none rfl) rfl (ex_move rfl) ?_
              refine JL_q (wants_none rfl) rfl (ex_move rfl) ?_
              refine JL_bnd fun r96 hr97 => ?_
              refine JL_call (wants_none rfl) rfl Try.call58 rfl (Ca_of0 fun w hh => c_impl_MultiConfig_read _ w (fun _ hk => hk.elim) _ _ (hh.bx_pa 5 rfl (GMultiConfig.rdmk (Rd.mk_int _ _ _) (hh.mk0 4 rfl)) rfl) _ hr97) (fun _ => ?_)
              refine JL_q (wants_none rfl) rfl (ex_lookup_ok (x := r96) (z := 0) 10 key_101 Try.underlying97 zi_2 rfl rfl rfl rfl rfl) ?_
              refine JL_q (wants_none rfl) rfl (ex_move rfl) ?_
              refine JL_q (wants_none rfl) rfl (ex_extract rfl rfl) ?_
              refine JL_q (wants_none rfl) rfl (ex_extract rfl rfl) ?_
              refine JL_q (wants_none rfl) rfl (ex_assign rfl) ?_
              refine JL_q (wants_none rfl) rfl (ex_assign rfl) ?_
              refine JL_nil ?_
              refine N_then ?_
              refine J_seq ?_
              refine J_seq ?_
              refine J_region ?_
              refine JL_q (wants_none rfl) rfl (ex_move rfl) ?_
              refine JL_q (wants_none rfl) rfl (ex_not rfl) ?_
              refine JL_q (wants_none rfl) rfl (ex_move rfl) ?_
              refine JL_cond (fun h98 => ?_) (fun h98 => ?_)
              · refine JL_passed rfl rfl rfl h98 ?_
                refine JL_passed rfl rfl rfl h98 ?_
                refine JL_passed rfl rfl rfl h98 ?_
                refine JL_q (wants_none rfl) rfl (ex_pick_true rfl h98 rfl) ?_
                refine JL_nil ?_
                refine N_then ?_
                refine J_if_true rfl rfl ?_
                refine J_seq ?_
                refine J_region ?_
                refine JL_q (wants_none rfl) rfl (ex_move rfl) ?_
                refine JL_q (wants_none rfl) rfl (ex_move rfl) ?_
                refine JL_q (wants_none rfl) rfl (ex_not rfl) ?_
                refine JL_q (wants_none rfl) rfl (ex_assign rfl) ?_
                refine JL_q (wants_none rfl) rfl (ex_assign rfl) ?_
                refine JL_q (wants_none rfl) rfl (ex_assign rfl) ?_
                refine JL_nil ?_
                refine N_then ?_
                refine J_ret ?_
                refine N_then_ret ?_
                refine N_block_ret ?_
                refine N_then_ret ?_
                refine N_round_reti ?_
                refine N_inl3 hK15 rfl (rv_tmp rfl) (rv_tmp rfl) (rv_tmp rfl) ?_
                refine JL_q (wants_none rfl) rfl (ex_move rfl) ?_
                refine JL_q (wants_none rfl) rfl (ex_extract rfl rfl) ?_
                refine JL_q (wants_none rfl) rfl (ex_extract rfl rfl) ?_
                refine JL_q (wants_none rfl) rfl (ex_extract rfl rfl) ?_
                refine JL_q (wants_none rfl) rfl (ex_assign rfl) ?_
                refine JL_q (wants_none rfl) rfl (ex_assign rfl) ?_
                refine JL_q (wants_none rfl) rfl (ex_assign rfl) ?_
                refine JL_nil ?_
                refine N_then ?_
                refine J_seq ?_
                refine J_seq ?_
                refine J_region ?_
                refine JL_q (wants_none rfl) rfl (ex_move rfl) ?_
                refine JL_q (wants_none rfl) rfl (ex_neq rfl rfl) ?_
                refine JL_nil ?_
                refine N_then ?_
                refine J_if_false rfl (by decide) ?_
                refine J_skip ?_
                refine N_then ?_
                refine J_seq ?_
                refine J_region ?_
                refine JL_q (wants_none rfl) rfl (ex_load_bx 7 ti_48 rfl rfl rfl) ?_
                refine JL_q (wants_none rfl) rfl (ex_assign rfl) ?_
                refine JL_q (wants_none rfl) rfl (ex_assign rfl) ?_
                refine JL_nil ?_
                refine N_then ?_
                refine J_ret ?_
                exact N_ret2 rfl (rv_tmp rfl) (rv_tmp rfl) (fun w hh => ⟨(v95, (g33_3 ++ (((x91_0 : Value).ownBlock.toList ++ x91_1) ++ []))), rfl, hh.sel [6] rfl⟩)
              · refine JL_q (wants_some rfl rfl rfl h98) rfl (ex_move rfl) ?_
                refine JL_q (wants_some rfl rfl rfl h98) rfl (ex_move rfl) ?_
                refine JL_q (wants_some rfl rfl rfl h98) rfl (ex_eql rfl rfl) ?_
                refine JL_q (wants_none rfl) rfl (ex_pick_false rfl h98 rfl) ?_
                refine JL_nil ?_
                refine N_then ?_
                refine J_if rfl (fun h99 => ?_) (fun h99 => ?_)
                · refine J_seq ?_
                  refine J_region ?_
                  refine JL_q (wants_none rfl) rfl (ex_move rfl) ?_
                  refine JL_q (wants_none rfl) rfl (ex_move rfl) ?_
                  refine JL_q (wants_none rfl) rfl (ex_not rfl) ?_
                  refine JL_q (wants_none rfl) rfl (ex_assign rfl) ?_
                  refine JL_q (wants_none rfl) rfl (ex_assign rfl) ?_
                  refine JL_q (wants_none rfl) rfl (ex_assign rfl) ?_
                  refine JL_nil ?_
                  refine N_then ?_
                  refine J_ret ?_
                  refine N_then_ret ?_
                  refine N_block_ret ?_
                  refine N_then_ret ?_
                  refine N_round_reti ?_
                  refine N_inl3 hK15 rfl (rv_tmp rfl) (rv_tmp rfl) (rv_tmp rfl) ?_
                  refine JL_q (wants_none rfl) rfl (ex_move rfl) ?_
                  refine JL_q (wants_none rfl) rfl (ex_extract rfl rfl) ?_
                  refine JL_q (wants_none rfl) rfl (ex_extract rfl rfl) ?_
                  refine JL_q (wants_none rfl) rfl (ex_extract rfl rfl) ?_
                  refine JL_q (wants_none rfl) rfl (ex_assign rfl) ?_
                  refine JL_q (wants_none rfl) rfl (ex_assign rfl) ?_
                  refine JL_q (wants_none rfl) rfl (ex_assign rfl) ?_
                  refine JL_nil ?_
                  refine N_then ?_
                  refine J_seq ?_
                  refine J_seq ?_
                  refine J_region ?_
                  refine JL_q (wants_none rfl) rfl (ex_move rfl) ?_
                  refine JL_q (wants_none rfl) rfl (ex_neq rfl rfl) ?_
                  refine JL_nil ?_
                  refine N_then ?_
                  refine J_if_false rfl (by decide) ?_
                  refine J_skip ?_
                  refine N_then ?_
                  refine J_seq ?_
                  refine J_region ?_
                  refine JL_q (wants_none rfl) rfl (ex_load_bx 7 ti_48 rfl rfl rfl) ?_
                  refine JL_q (wants_none rfl) rfl (ex_assign rfl) ?_
                  refine JL_q (wants_none rfl) rfl (ex_assign rfl) ?_
                  refine JL_nil ?_
                  refine N_then ?_
                  refine J_ret ?_
                  exact N_ret2 rfl (rv_tmp rfl) (rv_tmp rfl) (fun w hh => ⟨(v95, (g33_3 ++ (((x91_0 : Value).ownBlock.toList ++ x91_1) ++ []))), rfl, hh.sel [6] rfl⟩)
                · refine J_skip ?_
                  refine N_then ?_
                  refine J_seq ?_
                  refine J_region ?_
                  refine JL_q (wants_none rfl) rfl (ex_move rfl) ?_
                  refine JL_q (wants_none rfl) rfl (ex_fieldAddr fi_37_3 rfl rfl) ?_
                  refine JL_q (wants_none rfl) rfl (ex_load_bx 9 ti_35 rfl rfl rfl) ?_
                  refine JL_q (wants_none rfl) rfl (ex_move rfl) ?_
                  refine JL_bnd fun y100 hy101 => ?_
                  refine JL_st (wants_none rfl) rfl (st_index 8 Try.underlying35 ti_68 rfl rfl rfl hy101) (fun q102 => ?_)
                  refine JL_st (wants_none rfl) rfl (st_load_pt_o 0 (GMultiRule.opens _) ti_68 rfl rfl) (fun v103 => ?_)
                  refine JL_inline (wants_none rfl) rfl Try.call33 rfl Try.func33 rfl Try.ntmps33 rfl rfl (fun K_ hK104 => ?_)
                  refine J_seq ?_
                  refine J_region ?_
                  refine JL_st (wants_none rfl) rfl (st_box' rfl (fun w hh => (cv_aggs ⟨cv_int, (hh.cv 0 rfl), (hh.cv 1 rfl), (hh.cv 2 rfl), cv_int, trivial⟩))) (fun b105 => ?_)
                  refine JL_q (wants_none rfl) rfl (ex_assign rfl) ?_
                  refine JL_nil ?_
                  refine N_then ?_
                  refine J_seq ?_
                  refine J_region ?_
                  refine JL_q (wants_none rfl) rfl (ex_assign rfl) ?_
                  refine JL_nil ?_
                  refine N_then ?_
                  refine J_seq ?_
                  refine J_seq ?_
                  refine J_region ?_
                  refine JL_q (wants_none rfl) rfl (ex_move rfl) ?_
                  refine JL_q (wants_none rfl) rfl (ex_nilCheck rfl) ?_
                  refine JL_q (wants_none rfl) rfl (ex_fieldAddr fi_32_1 rfl rfl) ?_
                  refine JL_q (wants_none rfl) rfl (ex_load_bx 10 ti_30 rfl rfl rfl) ?_
                  refine JL_q (wants_none rfl) rfl (ex_len_mk 9 Try.underlying30 rfl rfl) ?_
                  refine JL_q (wants_none rfl) rfl (ex_move rfl) ?_
                  refine JL_nil ?_
                  refine N_then ?_
                  refine J_loop' (S := (List GTape) × Bool × Int) (G := Value × List Nat) (F_impl_TraceMulti_L3 s32 y100) (fun s106 g107 => [(0, .pointer (some ⟨b13, 0, none⟩)), (3, .pointer (some ⟨b105, 0, none⟩)), (5, .bool s106.2.1), (12, .int .i64 (s32.2.1.length : Int)), (13, .int .i64 s106.2.2)]) (fun s106 g107 => [mkr g107.1 s106.1 g107.2, .bx b13 32 [.int .i64 s32.1, g107.1], .rd v103.1 y100.Read, .rd v103.2.1 y100.Write, .rd v103.2.2 y100.Move, .bx b105 68 [.int .i64 y100.State, v103.1, v103.2.1, v103.2.2, .int .i64 y100.Next], .od 32 v95 z93 (g33_3 ++ (((x91_0 : Value).ownBlock.toList ++ x91_1) ++ [])), .bx b14 48 [v95], .rd v0_0 p0.Rules, .bx b16 37 [.int .i64 p0.Tapes, .int .i64 p0.Symbols, .int .i64 p0.States, v0_0], mpf Greading.enc (Value.int .i64) b19 s20.1]) (s32.2.1, true, 0) (g33_0, g33_1) ⟨rfl, rfl, rfl, rfl, rfl, trivial⟩ [9, 10, 1, 2, 3, 0, 11, 12, 13, 14, 15] rfl rfl (fun s106 g107 => ?_) (fun s106 g107 => ?_)
                  · obtain ⟨g107_0, g107_1⟩ := g107
                    unfold F_impl_TraceMulti_L3
                    refine J_seq ?_
                    refine J_region ?_
                    refine JL_q (wants_none rfl) rfl (ex_lss rfl rfl) ?_
                    refine JL_nil ?_
                    refine N_then ?_
                    refine J_seq ?_
                    refine J_if rfl (fun h108 => ?_) (fun h108 => ?_)
                    · refine J_skip ?_
                      refine N_then ?_
                      refine J_seq ?_
                      refine J_block ?_
                      refine J_seq ?_
                      refine J_region ?_
                      refine JL_q (wants_none rfl) rfl (ex_move rfl) ?_
                      refine JL_q (wants_none rfl) rfl (ex_assign rfl) ?_
                      refine JL_nil ?_
                      refine N_then ?_
                      refine J_seq ?_
                      refine J_region ?_
                      refine JL_q (wants_none rfl) rfl (ex_move rfl) ?_
                      refine JL_q (wants_none rfl) rfl (ex_nilCheck rfl) ?_
                      refine JL_q (wants_none rfl) rfl (ex_fieldAddr fi_32_1 rfl rfl) ?_
                      refine JL_q (wants_none rfl) rfl (ex_load_bx 1 ti_30 rfl rfl rfl) ?_
                      refine JL_q (wants_none rfl) rfl (ex_move rfl) ?_
                      refine JL_bnd fun y109 hy110 => ?_
                      refine JL_mk_open 0 rfl hy110 ?_; rintro b111 o113 cap112 rfl
                      refine JL_hole 0 rfl hy110 rfl (GTape.two _) ?_; intro L114 R115 v116 v117 C118 C119 Ba120 Bb121 tt122 hL123
                      refine JL_q (wants_none rfl) rfl (ex_index_hole Try.underlying30 ti_91 rfl rfl hy110 rfl hL123) ?_
                      refine JL_q (wants_none rfl) rfl (ex_assign rfl) ?_
                      refine JL_nil ?_
                      refine N_then ?_
                      refine J_seq ?_
                      refine J_draw [0, 1, 2] (by kernel_rfl) ?_
                      refine JP_take (i := 0) [3, 4, 5, 6, 7, 8, 9, 10, 11, 12, 13, 14] [0, 1, 2] rfl (by kernel_rfl) (by kernel_rfl) (by kernel_rfl) rfl rfl (wants_none rfl) rfl (ex_move rfl) ?_
                      refine JP_take (i := 1) [3, 4, 5, 6, 7, 8, 9, 10, 11, 12, 13, 14] [0, 1, 2] rfl (by kernel_rfl) (by kernel_rfl) (by kernel_rfl) rfl rfl (wants_none rfl) rfl (ex_fieldAddr fi_68_2 rfl rfl) ?_
                      refine JP_take (i := 2) [3, 4, 5, 6, 7, 8, 9, 10, 11, 12, 13, 14] [0, 1, 2] rfl (by kernel_rfl) (by kernel_rfl) (by kernel_rfl) rfl rfl (wants_none rfl) rfl (ex_load_bx 6 ti_66 rfl rfl rfl) ?_
                      refine JP_take (i := 3) [3, 4, 5, 6, 7, 8, 9, 10, 11, 12, 13, 14] [0, 1, 2] rfl (by kernel_rfl) (by kernel_rfl) (by kernel_rfl) rfl rfl (wants_none rfl) rfl (ex_move rfl) ?_
                      refine JP_bnd fun y124 hy125 => ?_
                      refine JP_sq (i := 4) [0, 1, 2] rfl (by kernel_rfl) (by kernel_rfl) (by kernel_rfl) rfl (wants_none rfl) rfl (sq_index 7 Try.underlying66 ti_2 rfl rfl rfl hy125) (fun q126 => ?_)
                      refine JP_sq (i := 5) [1, 2, 3] rfl (by kernel_rfl) (by kernel_rfl) (by kernel_rfl) rfl (wants_none rfl) rfl (sq_load_pt_o 0 (opens_int _) ti_2 rfl rfl) (fun _ => ?_)
                      refine JP_take (i := 6) [0, 4, 5, 6, 7, 8, 9, 10, 11, 12, 13, 14, 15] [1, 2, 3] rfl (by kernel_rfl) (by kernel_rfl) (by kernel_rfl) rfl rfl (wants_none rfl) rfl (ex_fieldAddr fi_68_3 rfl rfl) ?_
                      refine JP_take (i := 7) [0, 4, 5, 6, 7, 8, 9, 10, 11, 12, 13, 14, 15] [1, 2, 3] rfl (by kernel_rfl) (by kernel_rfl) (by kernel_rfl) rfl rfl (wants_none rfl) rfl (ex_load_bx 7 ti_66 rfl rfl rfl) ?_
                      refine JP_take (i := 8) [0, 4, 5, 6, 7, 8, 9, 10, 11, 12, 13, 14, 15] [1, 2, 3] rfl (by kernel_rfl) (by kernel_rfl) (by kernel_rfl) rfl rfl (wants_none rfl) rfl (ex_move rfl) ?_
                      refine JP_bnd fun y128 hy129 => ?_
                      refine JP_sq (i := 9) [1, 2, 3] rfl (by kernel_rfl) (by kernel_rfl) (by kernel_rfl) rfl (wants_none rfl) rfl (sq_index 9 Try.underlying66 ti_2 rfl rfl rfl hy129) (fun q130 => ?_)
                      refine JP_sq (i := 10) [2, 3, 4] rfl (by kernel_rfl) (by kernel_rfl) (by kernel_rfl) rfl (wants_none rfl) rfl (sq_load_pt_o 0 (opens_int _) ti_2 rfl rfl) (fun _ => ?_)
                      refine JP_go [0, 1, 5, 6, 7, 8, 9, 10, 11, 12, 13, 14, 15, 16] [2, 3, 4] rfl rfl rfl (fun w133 h1_134 hp132 => ?_)
                      refine JD_bnd fun r135 hr136 => ?_
                      refine JD_one (i := 11) (by kernel_rfl) ?_
                      refine JO_callT rfl (wants_none rfl) rfl Try.call60 rfl (CaT_of [2, 3, 4] [0, 1, 5, 6, 7, 8, 9, 10, 11, 12, 13, 14, 15, 16] rfl rfl (fun _ => rfl) fun w hh => c_impl_Tape_write w b111 y109 L114 R115 tt122 v116 C118 v117 C119 _ rfl (hh.handed [2, 3, 4] rfl rfl rfl rfl) _ _ _ hr136) (fun k hk => (List.mem_append.1 hk).elim ((sub_bx 0 rfl) k) ((fun k hk => (List.mem_append.1 hk).elim ((sub_mk 1 rfl) k) ((fun k hk => (List.mem_append.1 hk).elim ((sub_mk 2 rfl) k) ((fun k hk => absurd hk List.not_mem_nil) k)) k)) k)) (fun x137 => ?_)
                      obtain ⟨x137_0, x137_1, x137_2, x137_3⟩ := x137
                      refine JD_done (by kernel_rfl) ?_
                      refine N_then ?_
                      refine J_region ?_
                      refine JL_q (wants_none rfl) rfl (ex_move rfl) ?_
                      refine JL_q (wants_none rfl) rfl (ex_move rfl) ?_
                      refine JL_cond (fun h138 => ?_) (fun h138 => ?_)
                      · refine JL_q (wants_some rfl rfl rfl h138) rfl (ex_move rfl) ?_
                        refine JL_q (wants_some rfl rfl rfl h138) rfl (ex_nilCheck rfl) ?_
                        refine JL_q (wants_some rfl rfl rfl h138) rfl (ex_fieldAddr fi_91_0 rfl rfl) ?_
                        refine JL_q (wants_some rfl rfl rfl h138) rfl (ex_load_bx 0 ti_66 rfl rfl (app_at (j := 0) rfl)) ?_
                        refine JL_q (wants_some rfl rfl rfl h138) rfl (ex_len_mk 1 Try.underlying66 rfl rfl) ?_
                        refine JL_q (wants_some rfl rfl rfl h138) rfl (ex_leq rfl rfl) ?_
                        refine JL_q (wants_none rfl) rfl (ex_pick_true rfl h138 rfl) ?_
                        refine JL_q (wants_none rfl) rfl (ex_move rfl) ?_
                        refine JL_cond (fun h139 => ?_) (fun h139 => ?_)
                        · refine JL_q (wants_some rfl rfl rfl h139) rfl (ex_move rfl) ?_
                          refine JL_q (wants_some rfl rfl rfl h139) rfl (ex_nilCheck rfl) ?_
                          refine JL_q (wants_some rfl rfl rfl h139) rfl (ex_fieldAddr fi_91_1 rfl rfl) ?_
                          refine JL_q (wants_some rfl rfl rfl h139) rfl (ex_load_bx 0 ti_66 rfl rfl (app_at (j := 1) rfl)) ?_
                          refine JL_q (wants_some rfl rfl rfl h139) rfl (ex_len_mk 2 Try.underlying66 rfl rfl) ?_
                          refine JL_q (wants_some rfl rfl rfl h139) rfl (ex_leq rfl rfl) ?_
                          refine JL_q (wants_none rfl) rfl (ex_pick_true rfl h139 rfl) ?_
                          refine JL_q (wants_none rfl) rfl (ex_assign rfl) ?_
                          refine JL_nil ?_
                          refine N_block ?_
                          refine N_then ?_
                          refine J_region ?_
                          refine JL_q (wants_none rfl) rfl (ex_add rfl rfl) ?_
                          refine JL_q (wants_none rfl) rfl (ex_move rfl) ?_
                          refine JL_nil ?_
                          refine N_ctx (fun w2_ hh => SH.hole_close (idx_eq hy110).2.1 (GTape.two (⟨r135.2.1, r135.2.2⟩ : GTape)) (show SH _ _ w2_ [.bx b111 tt122 (L114 ++ [x137_0, x137_2] ++ R115), mkr x137_0 r135.2.1 x137_1, mkr x137_2 r135.2.2 x137_3, hol o113 cap112 s106.1 s106.2.2.toNat L114 R115 Ba120 Bb121, .pt q130 y128, .pt q126 y124, .bx b13 32 [.int .i64 s32.1, (.slice (some ⟨b111, o113, none⟩) s106.1.length cap112)], .rd v103.1 y100.Read, .rd v103.2.1 y100.Write, .rd v103.2.2 y100.Move, .bx b105 68 [.int .i64 y100.State, v103.1, v103.2.1, v103.2.2, .int .i64 y100.Next], .od 32 v95 z93 (g33_3 ++ (((x91_0 : Value).ownBlock.toList ++ x91_1) ++ [])), .bx b14 48 [v95], .rd v0_0 p0.Rules, .bx b16 37 [.int .i64 p0.Tapes, .int .i64 p0.Symbols, .int .i64 p0.States, v0_0], mpf Greading.enc (Value.int .i64) b19 s20.1] from hh.sel [0, 1, 2, 5, 3, 4, 7, 8, 9, 10, 11, 12, 13, 14, 15, 16] rfl)) ?_
                          exact N_next' ((.slice (some ⟨b111, o113, none⟩) s106.1.length cap112), (b111 :: (Ba120 ++ (x137_1 ++ x137_3 ++ Bb121)))) ⟨rfl, rfl, rfl, rfl, rfl, trivial⟩ [0, 3, 4, 5, 6, 7, 8, 9, 10, 11, 12] rfl rfl
                        · refine JL_passed rfl rfl rfl h139 ?_
                          refine JL_passed rfl rfl rfl h139 ?_
                          refine JL_passed rfl rfl rfl h139 ?_
                          refine JL_passed rfl rfl rfl h139 ?_
                          refine JL_passed rfl rfl rfl h139 ?_
                          refine JL_passed rfl rfl rfl h139 ?_
                          refine JL_q (wants_none rfl) rfl (ex_pick_false rfl h139 rfl) ?_
                          refine JL_q (wants_none rfl) rfl (ex_assign rfl) ?_
                          refine JL_nil ?_
                          refine N_block ?_
                          refine N_then ?_
                          refine J_region ?_
                          refine JL_q (wants_none rfl) rfl (ex_add rfl rfl) ?_
                          refine JL_q (wants_none rfl) rfl (ex_move rfl) ?_
                          refine JL_nil ?_
                          refine N_ctx (fun w2_ hh => SH.hole_close (idx_eq hy110).2.1 (GTape.two (⟨r135.2.1, r135.2.2⟩ : GTape)) (show SH _ _ w2_ [.bx b111 tt122 (L114 ++ [x137_0, x137_2] ++ R115), mkr x137_0 r135.2.1 x137_1, mkr x137_2 r135.2.2 x137_3, hol o113 cap112 s106.1 s106.2.2.toNat L114 R115 Ba120 Bb121, .pt q130 y128, .pt q126 y124, .bx b13 32 [.int .i64 s32.1, (.slice (some ⟨b111, o113, none⟩) s106.1.length cap112)], .rd v103.1 y100.Read, .rd v103.2.1 y100.Write, .rd v103.2.2 y100.Move, .bx b105 68 [.int .i64 y100.State, v103.1, v103.2.1, v103.2.2, .int .i64 y100.Next], .od 32 v95 z93 (g33_3 ++ (((x91_0 : Value).ownBlock.toList ++ x91_1) ++ [])), .bx b14 48 [v95], .rd v0_0 p0.Rules, .bx b16 37 [.int .i64 p0.Tapes, .int .i64 p0.Symbols, .int .i64 p0.States, v0_0], mpf Greading.enc (Value.int .i64) b19 s20.1] from hh.sel [0, 1, 2, 5, 3, 4, 7, 8, 9, 10, 11, 12, 13, 14, 15, 16] rfl)) ?_
                          exact N_next' ((.slice (some ⟨b111, o113, none⟩) s106.1.length cap112), (b111 :: (Ba120 ++ (x137_1 ++ x137_3 ++ Bb121)))) ⟨rfl, rfl, rfl, rfl, rfl, trivial⟩ [0, 3, 4, 5, 6, 7, 8, 9, 10, 11, 12] rfl rfl
                      · refine JL_passed rfl rfl rfl h138 ?_
                        refine JL_passed rfl rfl rfl h138 ?_
                        refine JL_passed rfl rfl rfl h138 ?_
                        refine JL_passed rfl rfl rfl h138 ?_
                        refine JL_passed rfl rfl rfl h138 ?_
                        refine JL_passed rfl rfl rfl h138 ?_
                        refine JL_q (wants_none rfl) rfl (ex_pick_false rfl h138 rfl) ?_
                        refine JL_q (wants_none rfl) rfl (ex_move rfl) ?_
                        refine JL_passed rfl rfl rfl rfl ?_
                        refine JL_passed rfl rfl rfl rfl ?_
                        refine JL_passed rfl rfl rfl rfl ?_
                        refine JL_passed rfl rfl rfl rfl ?_
                        refine JL_passed rfl rfl rfl rfl ?_
                        refine JL_passed rfl rfl rfl rfl ?_
                        refine JL_q (wants_none rfl) rfl (ex_pick_false rfl rfl rfl) ?_
                        refine JL_q (wants_none rfl) rfl (ex_assign rfl) ?_
                        refine JL_nil ?_
                        refine N_block ?_
                        refine N_then ?_
                        refine J_region ?_
                        refine JL_q (wants_none rfl) rfl (ex_add rfl rfl) ?_
                        refine JL_q (wants_none rfl) rfl (ex_move rfl) ?_
                        refine JL_nil ?_
                        refine N_ctx (fun w2_ hh => SH.hole_close (idx_eq hy110).2.1 (GTape.two (⟨r135.2.1, r135.2.2⟩ : GTape)) (show SH _ _ w2_ [.bx b111 tt122 (L114 ++ [x137_0, x137_2] ++ R115), mkr x137_0 r135.2.1 x137_1, mkr x137_2 r135.2.2 x137_3, hol o113 cap112 s106.1 s106.2.2.toNat L114 R115 Ba120 Bb121, .pt q130 y128, .pt q126 y124, .bx b13 32 [.int .i64 s32.1, (.slice (some ⟨b111, o113, none⟩) s106.1.length cap112)], .rd v103.1 y100.Read, .rd v103.2.1 y100.Write, .rd v103.2.2 y100.Move, .bx b105 68 [.int .i64 y100.State, v103.1, v103.2.1, v103.2.2, .int .i64 y100.Next], .od 32 v95 z93 (g33_3 ++ (((x91_0 : Value).ownBlock.toList ++ x91_1) ++ [])), .bx b14 48 [v95], .rd v0_0 p0.Rules, .bx b16 37 [.int .i64 p0.Tapes, .int .i64 p0.Symbols, .int .i64 p0.States, v0_0], mpf Greading.enc (Value.int .i64) b19 s20.1] from hh.sel [0, 1, 2, 5, 3, 4, 7, 8, 9, 10, 11, 12, 13, 14, 15, 16] rfl)) ?_
                        exact N_next' ((.slice (some ⟨b111, o113, none⟩) s106.1.length cap112), (b111 :: (Ba120 ++ (x137_1 ++ x137_3 ++ Bb121)))) ⟨rfl, rfl, rfl, rfl, rfl, trivial⟩ [0, 3, 4, 5, 6, 7, 8, 9, 10, 11, 12] rfl rfl
                    · refine J_exit ?_
                      refine N_then_exit ?_
                      exact N_break' (g107_0, g107_1) ⟨rfl, rfl, rfl, rfl, rfl, trivial⟩ [0, 1, 2, 3, 4, 5, 6, 7, 8, 9, 10] rfl rfl
                  · obtain ⟨g107_0, g107_1⟩ := g107
                    refine N_then ?_
                    refine J_seq ?_
                    refine J_region ?_
                    refine JL_q (wants_none rfl) rfl (ex_move rfl) ?_
                    refine JL_q (wants_none rfl) rfl (ex_fieldAddr fi_68_4 rfl rfl) ?_
                    refine JL_q (wants_none rfl) rfl (ex_load_bx 5 ti_2 rfl rfl rfl) ?_
                    refine JL_q (wants_none rfl) rfl (ex_nilCheck rfl) ?_
                    refine JL_q (wants_none rfl) rfl (ex_fieldAddr fi_32_0 rfl rfl) ?_
                    refine JL_sk (wants_none rfl) (sk_store_bx' 1 ti_2 rfl rfl (fun w hh => cv_int) rfl rfl rfl rfl) ?_
                    refine JL_nil ?_
                    refine N_then ?_
                    refine J_seq ?_
                    refine J_region ?_
                    refine JL_q (wants_none rfl) rfl (ex_move rfl) ?_
                    refine JL_q (wants_none rfl) rfl (ex_assign rfl) ?_
                    refine JL_nil ?_
                    refine N_then ?_
                    refine J_ret ?_
                    refine N_inl1 hK104 rfl (rv_tmp rfl) ?_
                    refine JL_q (wants_none rfl) rfl (ex_not rfl) ?_
                    refine JL_nil ?_
                    refine N_then ?_
                    refine J_if rfl (fun h140 => ?_) (fun h140 => ?_)
                    · refine J_seq ?_
                      refine J_region ?_
                      refine JL_q (wants_none rfl) rfl (ex_assign rfl) ?_
                      refine JL_q (wants_none rfl) rfl (ex_assign rfl) ?_
                      refine JL_q (wants_none rfl) rfl (ex_assign rfl) ?_
                      refine JL_nil ?_
                      refine N_then ?_
                      refine J_ret ?_
                      refine N_block_ret ?_
                      refine N_then_ret ?_
                      refine N_round_reti ?_
                      refine N_inl3 hK15 rfl (rv_tmp rfl) (rv_tmp rfl) (rv_tmp rfl) ?_
                      refine JL_q (wants_none rfl) rfl (ex_move rfl) ?_
                      refine JL_q (wants_none rfl) rfl (ex_extract rfl rfl) ?_
                      refine JL_q (wants_none rfl) rfl (ex_extract rfl rfl) ?_
                      refine JL_q (wants_none rfl) rfl (ex_extract rfl rfl) ?_
                      refine JL_q (wants_none rfl) rfl (ex_assign rfl) ?_
                      refine JL_q (wants_none rfl) rfl (ex_assign rfl) ?_
                      refine JL_q (wants_none rfl) rfl (ex_assign rfl) ?_
                      refine JL_nil ?_
                      refine N_then ?_
                      refine J_seq ?_
                      refine J_seq ?_
                      refine J_region ?_
                      refine JL_q (wants_none rfl) rfl (ex_move rfl) ?_
                      refine JL_q (wants_none rfl) rfl (ex_neq rfl rfl) ?_
                      refine JL_nil ?_
                      refine N_then ?_
                      refine J_if_true rfl (by decide) ?_
                      refine J_seq ?_
                      refine J_region ?_
                      refine JL_q (wants_none rfl) rfl (ex_move rfl) ?_
                      refine JL_q (wants_none rfl) rfl (ex_assign rfl) ?_
                      refine JL_q (wants_none rfl) rfl (ex_assign rfl) ?_
                      refine JL_nil ?_
                      refine N_then ?_
                      refine J_ret ?_
                      refine N_then_ret ?_
                      refine N_ctx (fun w hh => SH.od_nil (α := GMultiConfig) 32 hh) ?_
                      exact N_ret2 rfl (rv_tmp rfl) (rv_tmp rfl) (fun w hh => ⟨((.slice none 0 0 : Value), ([] : List Nat)), rfl, hh.sel [0] rfl⟩)
                    · refine J_skip ?_
                      refine N_block ?_
                      refine N_then ?_
                      refine J_region ?_
                      refine JL_q (wants_none rfl) rfl (ex_move rfl) ?_
                      refine JL_q (wants_none rfl) rfl (ex_add rfl rfl) ?_
                      refine JL_q (wants_none rfl) rfl (ex_assign rfl) ?_
                      refine JL_nil ?_
                      exact N_next' (g107_0, g107_1, v95, (g33_3 ++ (((x91_0 : Value).ownBlock.toList ++ x91_1) ++ []))) ⟨rfl, rfl, rfl, rfl, rfl, rfl, trivial⟩ [0, 1, 6, 7, 8, 9, 10] rfl rfl
            · refine JO_ctx (fun w hh => hh.tok 0 rfl) (tok_owns (i := 0) rfl) ?_
              refine JO_st rfl (wants_none rfl) rfl (st_buildSlice_od (vs := [.agg #[.int .i64 r39.State, x91_0]]) (B := (((x91_0 : Value).ownBlock.toList ++ x91_1) ++ [])) ([r39] : List GMultiConfig) [0] Try.underlying48 ti_32 zi_32 rfl rfl rfl rfl rfl (fun w hh => (dwv_cons (GMultiConfig.dw (hh.dw 0 rfl)) dwv_nil))) (fun _ hk => nomatch hk) (fun b141 => ?_)
              refine JD_one (i := 0) (by kernel_rfl) ?_
              refine JO_q rfl (wants_none rfl) rfl (ex_load_bx 7 ti_48 rfl rfl rfl) ?_
              refine JD_bnd fun z142 hz143 => ?_
              refine JD_one (i := 4) (by kernel_rfl) ?_
              refine JO_st rfl (wants_none rfl) rfl (st_append_od 6 0 Try.underlying48 ti_32 zi_32 rfl bi_32 rfl rfl rfl rfl rfl rfl hz143) (sub_od 0 rfl) (fun v144 => ?_)
              refine JD_one (i := 5) (by kernel_rfl) ?_
              refine JO_sk rfl (wants_none rfl) (sk_store_bx' 7 ti_48 rfl rfl (fun w hh => (hh.cv_od 6 rfl)) rfl rfl rfl rfl) (sub_bx 1 rfl) ?_
              refine JD_done (by kernel_rfl) ?_
              refine N_inl0 (.inr rfl) hK34 rfl ?_
              refine JL_nil ?_
              refine N_then ?_
              refine J_seq ?_
              refine J_region ?_
              refine JL_q (wants_none rfl) rfl (ex_move rfl) ?_
              refine JL_q (wants_none rfl) rfl (ex_move rfl) ?_
              refine JL_bnd fun r145 hr146 => ?_
              refine JL_call (wants_none rfl) rfl Try.call58 rfl (Ca_of0 fun w hh => c_impl_MultiConfig_read _ w (fun _ hk => hk.elim) _ _ (hh.bx_pa 5 rfl (GMultiConfig.rdmk (Rd.mk_int _ _ _) (hh.mk0 4 rfl)) rfl) _ hr146) (fun _ => ?_)
              refine JL_q (wants_none rfl) rfl (ex_lookup_ok (x := r145) (z := 0) 10 key_101 Try.underlying97 zi_2 rfl rfl rfl rfl rfl) ?_
              refine JL_q (wants_none rfl) rfl (ex_move rfl) ?_
              refine JL_q (wants_none rfl) rfl (ex_extract rfl rfl) ?_
              refine JL_q (wants_none rfl) rfl (ex_extract rfl rfl) ?_
              refine JL_q (wants_none rfl) rfl (ex_assign rfl) ?_
              refine JL_q (wants_none rfl) rfl (ex_assign rfl) ?_
              refine JL_nil ?_
              refine N_then ?_
              refine J_seq ?_
              refine J_seq ?_
              refine J_region ?_
              refine JL_q (wants_none rfl) rfl (ex_move rfl) ?_
              refine JL_q (wants_none rfl) rfl (ex_not rfl) ?_
              refine JL_q (wants_none rfl) rfl (ex_move rfl) ?_
              refine JL_cond (fun h147 => ?_) (fun h147 => ?_)
              · refine JL_passed rfl rfl rfl h147 ?_
                refine JL_passed rfl rfl rfl h147 ?_
                refine JL_passed rfl rfl rfl h147 ?_
                refine JL_q (wants_none rfl) rfl (ex_pick_true rfl h147 rfl) ?_
                refine JL_nil ?_
                refine N_then ?_
                refine J_if_true rfl rfl ?_
                refine J_seq ?_
                refine J_region ?_
                refine JL_q (wants_none rfl) rfl (ex_move rfl) ?_
                refine JL_q (wants_none rfl) rfl (ex_move rfl) ?_
                refine JL_q (wants_none rfl) rfl (ex_not rfl) ?_
                refine JL_q (wants_none rfl) rfl (ex_assign rfl) ?_
                refine JL_q (wants_none rfl) rfl (ex_assign rfl) ?_
                refine JL_q (wants_none rfl) rfl (ex_assign rfl) ?_
                refine JL_nil ?_
                refine N_then ?_
                refine J_ret ?_
                refine N_then_ret ?_
                refine N_block_ret ?_
                refine N_then_ret ?_
                refine N_round_reti ?_
                refine N_inl3 hK15 rfl (rv_tmp rfl) (rv_tmp rfl) (rv_tmp rfl) ?_
                refine JL_q (wants_none rfl) rfl (ex_move rfl) ?_
                refine JL_q (wants_none rfl) rfl (ex_extract rfl rfl) ?_
                refine JL_q (wants_none rfl) rfl (ex_extract rfl rfl) ?_
                refine JL_q (wants_none rfl) rfl (ex_extract rfl rfl) ?_
                refine JL_q (wants_none rfl) rfl (ex_assign rfl) ?_
                refine JL_q (wants_none rfl) rfl (ex_assign rfl) ?_
                refine JL_q (wants_none rfl) rfl (ex_assign rfl) ?_
                refine JL_nil ?_
                refine N_then ?_
                refine J_seq ?_
                refine J_seq ?_
                refine J_region ?_
                refine JL_q (wants_none rfl) rfl (ex_move rfl) ?_
                refine JL_q (wants_none rfl) rfl (ex_neq rfl rfl) ?_
                refine JL_nil ?_
                refine N_then ?_
                refine J_if_false rfl (by decide) ?_
                refine J_skip ?_
                refine N_then ?_
                refine J_seq ?_
                refine J_region ?_
                refine JL_q (wants_none rfl) rfl (ex_load_bx 7 ti_48 rfl rfl rfl) ?_
                refine JL_q (wants_none rfl) rfl (ex_assign rfl) ?_
                refine JL_q (wants_none rfl) rfl (ex_assign rfl) ?_
                refine JL_nil ?_
                refine N_then ?_
                refine J_ret ?_
                exact N_ret2 rfl (rv_tmp rfl) (rv_tmp rfl) (fun w hh => ⟨(v144, (g33_3 ++ (((x91_0 : Value).ownBlock.toList ++ x91_1) ++ []))), rfl, hh.sel [6] rfl⟩)
              · refine JL_q (wants_some rfl rfl rfl h147) rfl (ex_move rfl) ?_
                refine JL_q (wants_some rfl rfl rfl h147) rfl (ex_move rfl) ?_
                refine JL_q (wants_some rfl rfl rfl h147) rfl (ex_eql rfl rfl) ?_
                refine JL_q (wants_none rfl) rfl (ex_pick_false rfl h147 rfl) ?_
                refine JL_nil ?_
                refine N_then ?_
                refine J_if rfl (fun h148 => ?_) (fun h148 => ?_)
                · refine J_seq ?_
                  refine J_region ?_
                  refine JL_q (wants_none rfl) rfl (ex_move rfl) ?_
                  refine JL_q (wants_none rfl) rfl (ex_move rfl) ?_
                  refine JL_q (wants_none rfl) rfl (ex_not rfl) ?_
                  refine JL_q (wants_none rfl) rfl (ex_assign rfl) ?_
                  refine JL_q (wants_none rfl) rfl (ex_assign rfl) ?_
                  refine JL_q (wants_none rfl) rfl (ex_assign rfl) ?_
                  refine JL_nil ?_
                  refine N_then ?_
                  refine J_ret ?_
                  refine N_then_ret ?_
                  refine N_block_ret ?_
                  refine N_then_ret ?_
                  refine N_round_reti ?_
                  refine N_inl3 hK15 rfl (rv_tmp rfl) (rv_tmp rfl) (rv_tmp rfl) ?_
                  refine JL_q (wants_none rfl) rfl (ex_move rfl) ?_
                  refine JL_q (wants_none rfl) rfl (ex_extract rfl rfl) ?_
                  refine JL_q (wants_none rfl) rfl (ex_extract rfl rfl) ?_
                  refine JL_q (wants_none rfl) rfl (ex_extract rfl rfl) ?_
                  refine JL_q (wants_none rfl) rfl (ex_assign rfl) ?_
                  refine JL_q (wants_none rfl) rfl (ex_assign rfl) ?_
                  refine JL_q (wants_none rfl) rfl (ex_assign rfl) ?_
                  refine JL_nil ?_
                  refine N_then ?_
                  refine J_seq ?_
                  refine J_seq ?_
                  refine J_region ?_
                  refine JL_q (wants_none rfl) rfl (ex_move rfl) ?_
                  refine JL_q (wants_none rfl) rfl (ex_neq rfl rfl) ?_
                  refine JL_nil ?_
                  refine N_then ?_
                  refine J_if_false rfl (by decide) ?_
                  refine J_skip ?_
                  refine N_then ?_
                  refine J_seq ?_
                  refine J_region ?_
                  refine JL_q (wants_none rfl) rfl (ex_load_bx 7 ti_48 rfl rfl rfl) ?_
                  refine JL_q (wants_none rfl) rfl (ex_assign rfl) ?_
                  refine JL_q (wants_none rfl) rfl (ex_assign rfl) ?_
                  refine JL_nil ?_
                  refine N_then ?_
                  refine J_ret ?_
                  exact N_ret2 rfl (rv_tmp rfl) (rv_tmp rfl) (fun w hh => ⟨(v144, (g33_3 ++ (((x91_0 : Value).ownBlock.toList ++ x91_1) ++ []))), rfl, hh.sel [6] rfl⟩)
                · refine J_skip ?_
                  refine N_then ?_
                  refine J_seq ?_
                  refine J_region ?_
                  refine JL_q (wants_none rfl) rfl (ex_move rfl) ?_
                  refine JL_q (wants_none rfl) rfl (ex_fieldAddr fi_37_3 rfl rfl) ?_
                  refine JL_q (wants_none rfl) rfl (ex_load_bx 9 ti_35 rfl rfl rfl) ?_
                  refine JL_q (wants_none rfl) rfl (ex_move rfl) ?_
                  refine JL_bnd fun y149 hy150 => ?_
                  refine JL_st (wants_none rfl) rfl (st_index 8 Try.underlying35 ti_68 rfl rfl rfl hy150) (fun q151 => ?_)
                  refine JL_st (wants_none rfl) rfl (st_load_pt_o 0 (GMultiRule.opens _) ti_68 rfl rfl) (fun v152 => ?_)
                  refine JL_inline (wants_none rfl) rfl Try.call33 rfl Try.func33 rfl Try.ntmps33 rfl rfl (fun K_ hK153 => ?_)
                  refine J_seq ?_
                  refine J_region ?_
                  refine JL_st (wants_none rfl) rfl (st_box' rfl (fun w hh => (cv_aggs ⟨cv_int, (hh.cv 0 rfl), (hh.cv 1 rfl), (hh.cv 2 rfl), cv_int, trivial⟩))) (fun b154 => ?_)
                  refine JL_q (wants_none rfl) rfl (ex_assign rfl) ?_
                  refine JL_nil ?_
                  refine N_then ?_
                  refine J_seq ?_
                  refine J_region ?_
                  refine JL_q (wants_none rfl) rfl (ex_assign rfl) ?_
                  refine JL_nil ?_
                  refine N_then ?_
                  refine J_seq ?_
                  refine J_seq ?_
                  refine J_region ?_
                  refine JL_q (wants_none rfl) rfl (ex_move rfl) ?_
                  refine JL_q (wants_none rfl) rfl (ex_nilCheck rfl) ?_
                  refine JL_q (wants_none rfl) rfl (ex_fieldAddr fi_32_1 rfl rfl) ?_
                  refine JL_q (wants_none rfl) rfl (ex_load_bx 10 ti_30 rfl rfl rfl) ?_
                  refine JL_q (wants_none rfl) rfl (ex_len_mk 9 Try.underlying30 rfl rfl) ?_
                  refine JL_q (wants_none rfl) rfl (ex_move rfl) ?_
                  refine JL_nil ?_
                  refine N_then ?_
                  refine J_loop' (S := (List GTape) × Bool × Int) (G := Value × List Nat) (F_impl_TraceMulti_L3 s32 y149) (fun s155 g156 => [(0, .pointer (some ⟨b13, 0, none⟩)), (3, .pointer (some ⟨b154, 0, none⟩)), (5, .bool s155.2.1), (12, .int .i64 (s32.2.1.length : Int)), (13, .int .i64 s155.2.2)]) (fun s155 g156 => [mkr g156.1 s155.1 g156.2, .bx b13 32 [.int .i64 s32.1, g156.1], .rd v152.1 y149.Read, .rd v152.2.1 y149.Write, .rd v152.2.2 y149.Move, .bx b154 68 [.int .i64 y149.State, v152.1, v152.2.1, v152.2.2, .int .i64 y149.Next], .od 32 v144 z142 (g33_3 ++ (((x91_0 : Value).ownBlock.toList ++ x91_1) ++ [])), .bx b14 48 [v144], .rd v0_0 p0.Rules, .bx b16 37 [.int .i64 p0.Tapes, .int .i64 p0.Symbols, .int .i64 p0.States, v0_0], mpf Greading.enc (Value.int .i64) b19 s20.1]) (s32.2.1, true, 0) (g33_0, g33_1) ⟨rfl, rfl, rfl, rfl, rfl, trivial⟩ [9, 10, 1, 2, 3, 0, 11, 12, 13, 14, 15] rfl rfl (fun s155 g156 => ?_) (fun s155 g156 => ?_)
                  · obtain ⟨g156_0, g156_1⟩ := g156
                    unfold F_impl_TraceMulti_L3
                    refine J_seq ?_
                    refine J_region ?_
                    refine JL_q (wants_none rfl) rfl (ex_lss rfl rfl) ?_
                    refine JL_nil ?_
                    refine N_then ?_
                    refine J_seq ?_
                    refine J_if rfl (fun h157 => ?_) (fun h157 => ?_)
                    · refine J_skip ?_
                      refine N_then ?_
                      refine J_seq ?_
                      refine J_block ?_
                      refine J_seq ?_
                      refine J_region ?_
                      refine JL_q (wants_none rfl) rfl (ex_move rfl) ?_
                      refine JL_q (wants_none rfl) rfl (ex_assign rfl) ?_
                      refine JL_nil ?_
                      refine N_then ?_
                      refine J_seq ?_
                      refine J_region ?_
                      refine JL_q (wants_none rfl) rfl (ex_move rfl) ?_
                      refine JL_q (wants_none rfl) rfl (ex_nilCheck rfl) ?_
                      refine JL_q (wants_none rfl) rfl (ex_fieldAddr fi_32_1 rfl rfl) ?_
                      refine JL_q (wants_none rfl) rfl (ex_load_bx 1 ti_30 rfl rfl rfl) ?_
                      refine JL_q (wants_none rfl) rfl (ex_move rfl) ?_
                      refine JL_bnd fun y158 hy159 => ?_
                      refine JL_mk_open 0 rfl hy159 ?_; rintro b160 o162 cap161 rfl
                      refine JL_hole 0 rfl hy159 rfl (GTape.two _) ?_; intro L163 R164 v165 v166 C167 C168 Ba169 Bb170 tt171 hL172
                      refine JL_q (wants_none rfl) rfl (ex_index_hole Try.underlying30 ti_91 rfl rfl hy159 rfl hL172) ?_
                      refine JL_q (wants_none rfl) rfl (ex_assign rfl) ?_
                      refine JL_nil ?_
                      refine N_then ?_
                      refine J_seq ?_
                      refine J_draw [0, 1, 2] (by kernel_rfl) ?_
                      refine JP_take (i := 0) [3, 4, 5, 6, 7, 8, 9, 10, 11, 12, 13, 14] [0, 1, 2] rfl (by kernel_rfl) (by kernel_rfl) (by kernel_rfl) rfl rfl (wants_none rfl) rfl (ex_move rfl) ?_
                      refine JP_take (i := 1) [3, 4, 5, 6, 7, 8, 9, 10, 11, 12, 13, 14] [0, 1, 2] rfl (by kernel_rfl) (by kernel_rfl) (by kernel_rfl) rfl rfl (wants_none rfl) rfl (ex_fieldAddr fi_68_2 rfl rfl) ?_
                      refine JP_take (i := 2) [3, 4, 5, 6, 7, 8, 9, 10, 11, 12, 13, 14] [0, 1, 2] rfl (by kernel_rfl) (by kernel_rfl) (by kernel_rfl) rfl rfl (wants_none rfl) rfl (ex_load_bx 6 ti_66 rfl rfl rfl) ?_
                      refine JP_take (i := 3) [3, 4, 5, 6, 7, 8, 9, 10, 11, 12, 13, 14] [0, 1, 2] rfl (by kernel_rfl) (by kernel_rfl) (by kernel_rfl) rfl rfl (wants_none rfl) rfl (ex_move rfl) ?_
                      refine JP_bnd fun y173 hy174 => ?_
                      refine JP_sq (i := 4) [0, 1, 2] rfl (by kernel_rfl) (by kernel_rfl) (by kernel_rfl) rfl (wants_none rfl) rfl (sq_index 7 Try.underlying66 ti_2 rfl rfl rfl hy174) (fun q175 => ?_)
                      refine JP_sq (i := 5) [1, 2, 3] rfl (by kernel_rfl) (by kernel_rfl) (by kernel_rfl) rfl (wants_none rfl) rfl (sq_load_pt_o 0 (opens_int _) ti_2 rfl rfl) (fun _ => ?_)
                      refine JP_take (i := 6) [0, 4, 5, 6, 7, 8, 9, 10, 11, 12, 13, 14, 15] [1, 2, 3] rfl (by kernel_rfl) (by kernel_rfl) (by kernel_rfl) rfl rfl (wants_none rfl) rfl (ex_fieldAddr fi_68_3 rfl rfl) ?_
                      refine JP_take (i := 7) [0, 4, 5, 6, 7, 8, 9, 10, 11, 12, 13, 14, 15] [1, 2, 3] rfl (by kernel_rfl) (by kernel_rfl) (by kernel_rfl) rfl rfl (wants_none rfl) rfl (ex_load_bx 7 ti_66 rfl rfl rfl) ?_
                      refine JP_take (i := 8) [0, 4, 5, 6, 7, 8, 9, 10, 11, 12, 13, 14, 15] [1, 2, 3] rfl (by kernel_rfl) (by kernel_rfl) (by kernel_rfl) rfl rfl (wants_none rfl) rfl (ex_move rfl) ?_
                      refine JP_bnd fun y177 hy178 => ?_
                      refine JP_sq (i := 9) [1, 2, 3] rfl (by kernel_rfl) (by kernel_rfl) (by kernel_rfl) rfl (wants_none rfl) rfl (sq_index 9 Try.underlying66 ti_2 rfl rfl rfl hy178) (fun q179 => ?_)
                      refine JP_sq (i := 10) [2, 3, 4] rfl (by kernel_rfl) (by kernel_rfl) (by kernel_rfl) rfl (wants_none rfl) rfl (sq_load_pt_o 0 (opens_int _) ti_2 rfl rfl) (fun _ => ?_)
                      refine JP_go [0, 1, 5, 6, 7, 8, 9, 10, 11, 12, 13, 14, 15, 16] [2, 3, 4] rfl rfl rfl (fun w182 h1_183 hp181 => ?_)
                      refine JD_bnd fun r184 hr185 => ?_
                      refine JD_one (i := 11) (by kernel_rfl) ?_
                      refine JO_callT rfl (wants_none rfl) rfl Try.call60 rfl (CaT_of [2, 3, 4] [0, 1, 5, 6, 7, 8, 9, 10, 11, 12, 13, 14, 15, 16] rfl rfl (fun _ => rfl) fun w hh => c_impl_Tape_write w b160 y158 L163 R164 tt171 v165 C167 v166 C168 _ rfl (hh.handed [2, 3, 4] rfl rfl rfl rfl) _ _ _ hr185) (fun k hk => (List.mem_append.1 hk).elim ((sub_bx 0 rfl) k) ((fun k hk => (List.mem_append.1 hk).elim ((sub_mk 1 rfl) k) ((fun k hk => (List.mem_append.1 hk).elim ((sub_mk 2 rfl) k) ((fun k hk => absurd hk List.not_mem_nil) k)) k)) k)) (fun x186 => ?_)
                      obtain ⟨x186_0, x186_1, x186_2, x186_3⟩ := x186
                      refine JD_done (by kernel_rfl) ?_
                      refine N_then ?_
                      refine J_region ?_
                      refine JL_q (wants_none rfl) rfl (ex_move rfl) ?_
                      refine JL_q (wants_none rfl) rfl (ex_move rfl) ?_
                      refine JL_cond (fun h187 => ?_) (fun h187 => ?_)
                      · refine JL_q (wants_some rfl rfl rfl h187) rfl (ex_move rfl) ?_
                        refine JL_q (wants_some rfl rfl rfl h187) rfl (ex_nilCheck rfl) ?_
                        refine JL_q (wants_some rfl rfl rfl h187) rfl (ex_fieldAddr fi_91_0 rfl rfl) ?_
                        refine JL_q (wants_some rfl rfl rfl h187) rfl (ex_load_bx 0 ti_66 rfl rfl (app_at (j := 0) rfl)) ?_
                        refine JL_q (wants_some rfl rfl rfl h187) rfl (ex_len_mk 1 Try.underlying66 rfl rfl) ?_
                        refine JL_q (wants_some rfl rfl rfl h187) rfl (ex_leq rfl rfl) ?_
                        refine JL_q (wants_none rfl) rfl (ex_pick_true rfl h187 rfl) ?_
                        refine JL_q (wants_none rfl) rfl (ex_move rfl) ?_
                        refine JL_cond (fun h188 => ?_) (fun h188 => ?_)
                        · refine JL_q (wants_some rfl rfl rfl h188) rfl (ex_move rfl) ?_
                          refine JL_q (wants_some rfl rfl rfl h188) rfl (ex_nilCheck rfl) ?_
                          refine JL_q (wants_some rfl rfl rfl h188) rfl (ex_fieldAddr fi_91_1 rfl rfl) ?_
                          refine JL_q (wants_some rfl rfl rfl h188) rfl (ex_load_bx 0 ti_66 rfl rfl (app_at (j := 1) rfl)) ?_
                          refine JL_q (wants_some rfl rfl rfl h188) rfl (ex_len_mk 2 Try.underlying66 rfl rfl) ?_
                          refine JL_q (wants_some rfl rfl rfl h188) rfl (ex_leq rfl rfl) ?_
                          refine JL_q (wants_none rfl) rfl (ex_pick_true rfl h188 rfl) ?_
                          refine JL_q (wants_none rfl) rfl (ex_assign rfl) ?_
                          refine JL_nil ?_
                          refine N_block ?_
                          refine N_then ?_
                          refine J_region ?_
                          refine JL_q (wants_none rfl) rfl (ex_add rfl rfl) ?_
                          refine JL_q (wants_none rfl) rfl (ex_move rfl) ?_
                          refine JL_nil ?_
                          refine N_ctx (fun w2_ hh => SH.hole_close (idx_eq hy159).2.1 (GTape.two (⟨r184.2.1, r184.2.2⟩ : GTape)) (show SH _ _ w2_ [.bx b160 tt171 (L163 ++ [x186_0, x186_2] ++ R164), mkr x186_0 r184.2.1 x186_1, mkr x186_2 r184.2.2 x186_3, hol o162 cap161 s155.1 s155.2.2.toNat L163 R164 Ba169 Bb170, .pt q179 y177, .pt q175 y173, .bx b13 32 [.int .i64 s32.1, (.slice (some ⟨b160, o162, none⟩) s155.1.length cap161)], .rd v152.1 y149.Read, .rd v152.2.1 y149.Write, .rd v152.2.2 y149.Move, .bx b154 68 [.int .i64 y149.State, v152.1, v152.2.1, v152.2.2, .int .i64 y149.Next], .od 32 v144 z142 (g33_3 ++ (((x91_0 : Value).ownBlock.toList ++ x91_1) ++ [])), .bx b14 48 [v144], .rd v0_0 p0.Rules, .bx b16 37 [.int .i64 p0.Tapes, .int .i64 p0.Symbols, .int .i64 p0.States, v0_0], mpf Greading.enc (Value.int .i64) b19 s20.1] from hh.sel [0, 1, 2, 5, 3, 4, 7, 8, 9, 10, 11, 12, 13, 14, 15, 16] rfl)) ?_
                          exact N_next' ((.slice (some ⟨b160, o162, none⟩) s155.1.length cap161), (b160 :: (Ba169 ++ (x186_1 ++ x186_3 ++ Bb170)))) ⟨rfl, rfl, rfl, rfl, rfl, trivial⟩ [0, 3, 4, 5, 6, 7, 8, 9, 10, 11, 12] rfl rfl
                        · refine JL_passed rfl rfl rfl h188 ?_
                          refine JL_passed rfl rfl rfl h188 ?_
                          refine JL_passed rfl rfl rfl h188 ?_
                          refine JL_passed rfl rfl rfl h188 ?_
                          refine JL_passed rfl rfl rfl h188 ?_
                          refine JL_passed rfl rfl rfl h188 ?_
                          refine JL_q (wants_none rfl) rfl (ex_pick_false rfl h188 rfl) ?_
                          refine JL_q (wants_none rfl) rfl (ex_assign rfl) ?_
                          refine JL_nil ?_
                          refine N_block ?_
                          refine N_then ?_
                          refine J_region ?_
                          refine JL_q (wants_none rfl) rfl (ex_add rfl rfl) ?_
                          refine JL_q (wants_none rfl) rfl (ex_move rfl) ?_
                          refine JL_nil ?_
                          refine N_ctx (fun w2_ hh => SH.hole_close (idx_eq hy159).2.1 (GTape.two (⟨r184.2.1, r184.2.2⟩ : GTape)) (show SH _ _ w2_ [.bx b160 tt171 (L163 ++ [x186_0, x186_2] ++ R164), mkr x186_0 r184.2.1 x186_1, mkr x186_2 r184.2.2 x186_3, hol o162 cap161 s155.1 s155.2.2.toNat L163 R164 Ba169 Bb170, .pt q179 y177, .pt q175 y173, .bx b13 32 [.int .i64 s32.1, (.slice (some ⟨b160, o162, none⟩) s155.1.length cap161)], .rd v152.1 y149.Read, .rd v152.2.1 y149.Write, .rd v152.2.2 y149.Move, .bx b154 68 [.int .i64 y149.State, v152.1, v152.2.1, v152.2.2, .int .i64 y149.Next], .od 32 v144 z142 (g33_3 ++ (((x91_0 : Value).ownBlock.toList ++ x91_1) ++ [])), .bx b14 48 [v144], .rd v0_0 p0.Rules, .bx b16 37 [.int .i64 p0.Tapes, .int .i64 p0.Symbols, .int .i64 p0.States, v0_0], mpf Greading.enc (Value.int .i64) b19 s20.1] from hh.sel [0, 1, 2, 5, 3, 4, 7, 8, 9, 10, 11, 12, 13, 14, 15, 16] rfl)) ?_
                          exact N_next' ((.slice (some ⟨b160, o162, none⟩) s155.1.length cap161), (b160 :: (Ba169 ++ (x186_1 ++ x186_3 ++ Bb170)))) ⟨rfl, rfl, rfl, rfl, rfl, trivial⟩ [0, 3, 4, 5, 6, 7, 8, 9, 10, 11, 12] rfl rfl
                      · refine JL_passed rfl rfl rfl h187 ?_
                        refine JL_passed rfl rfl rfl h187 ?_
                        refine JL_passed rfl rfl rfl h187 ?_
                        refine JL_passed rfl rfl rfl h187 ?_
                        refine JL_passed rfl rfl rfl h187 ?_
                        refine JL_passed rfl rfl rfl h187 ?_
                        refine JL_q (wants_none rfl) rfl (ex_pick_false rfl h187 rfl) ?_
                        refine JL_q (wants_none rfl) rfl (ex_move rfl) ?_
                        refine JL_passed rfl rfl rfl rfl ?_
                        refine JL_passed rfl rfl rfl rfl ?_
                        refine JL_passed rfl rfl rfl rfl ?_
                        refine JL_passed rfl rfl rfl rfl ?_
                        refine JL_passed rfl rfl rfl rfl ?_
                        refine JL_passed rfl rfl rfl rfl ?_
                        refine JL_q (wants_none rfl) rfl (ex_pick_false rfl rfl rfl) ?_
                        refine JL_q (wants_none rfl) rfl (ex_assign rfl) ?_
                        refine JL_nil ?_
                        refine N_block ?_
                        refine N_then ?_
                        refine J_region ?_
                        refine JL_q (wants_none rfl) rfl (ex_add rfl rfl) ?_
                        refine JL_q (wants_none rfl) rfl (ex_move rfl) ?_
                        refine JL_nil ?_
                        refine N_ctx (fun w2_ hh => SH.hole_close (idx_eq hy159).2.1 (GTape.two (⟨r184.2.1, r184.2.2⟩ : GTape)) (show SH _ _ w2_ [.bx b160 tt171 (L163 ++ [x186_0, x186_2] ++ R164), mkr x186_0 r184.2.1 x186_1, mkr x186_2 r184.2.2 x186_3, hol o162 cap161 s155.1 s155.2.2.toNat L163 R164 Ba169 Bb170, .pt q179 y177, .pt q175 y173, .bx b13 32 [.int .i64 s32.1, (.slice (some ⟨b160, o162, none⟩) s155.1.length cap161)], .rd v152.1 y149.Read, .rd v152.2.1 y149.Write, .rd v152.2.2 y149.Move, .bx b154 68 [.int .i64 y149.State, v152.1, v152.2.1, v152.2.2, .int .i64 y149.Next], .od 32 v144 z142 (g33_3 ++ (((x91_0 : Value).ownBlock.toList ++ x91_1) ++ [])), .bx b14 48 [v144], .rd v0_0 p0.Rules, .bx b16 37 [.int .i64 p0.Tapes, .int .i64 p0.Symbols, .int .i64 p0.States, v0_0], mpf Greading.enc (Value.int .i64) b19 s20.1] from hh.sel [0, 1, 2, 5, 3, 4, 7, 8, 9, 10, 11, 12, 13, 14, 15, 16] rfl)) ?_
                        exact N_next' ((.slice (some ⟨b160, o162, none⟩) s155.1.length cap161), (b160 :: (Ba169 ++ (x186_1 ++ x186_3 ++ Bb170)))) ⟨rfl, rfl, rfl, rfl, rfl, trivial⟩ [0, 3, 4, 5, 6, 7, 8, 9, 10, 11, 12] rfl rfl
                    · refine J_exit ?_
                      refine N_then_exit ?_
                      exact N_break' (g156_0, g156_1) ⟨rfl, rfl, rfl, rfl, rfl, trivial⟩ [0, 1, 2, 3, 4, 5, 6, 7, 8, 9, 10] rfl rfl
                  · obtain ⟨g156_0, g156_1⟩ := g156
                    refine N_then ?_
                    refine J_seq ?_
                    refine J_region ?_
                    refine JL_q (wants_none rfl) rfl (ex_move rfl) ?_
                    refine JL_q (wants_none rfl) rfl (ex_fieldAddr fi_68_4 rfl rfl) ?_
                    refine JL_q (wants_none rfl) rfl (ex_load_bx 5 ti_2 rfl rfl rfl) ?_
                    refine JL_q (wants_none rfl) rfl (ex_nilCheck rfl) ?_
                    refine JL_q (wants_none rfl) rfl (ex_fieldAddr fi_32_0 rfl rfl) ?_
                    refine JL_sk (wants_none rfl) (sk_store_bx' 1 ti_2 rfl rfl (fun w hh => cv_int) rfl rfl rfl rfl) ?_
                    refine JL_nil ?_
                    refine N_then ?_
                    refine J_seq ?_
                    refine J_region ?_
                    refine JL_q (wants_none rfl) rfl (ex_move rfl) ?_
                    refine JL_q (wants_none rfl) rfl (ex_assign rfl) ?_
                    refine JL_nil ?_
                    refine N_then ?_
                    refine J_ret ?_
                    refine N_inl1 hK153 rfl (rv_tmp rfl) ?_
                    refine JL_q (wants_none rfl) rfl (ex_not rfl) ?_
                    refine JL_nil ?_
                    refine N_then ?_
                    refine J_if rfl (fun h189 => ?_) (fun h189 => ?_)
                    · refine J_seq ?_
                      refine J_region ?_
                      refine JL_q (wants_none rfl) rfl (ex_assign rfl) ?_
                      refine JL_q (wants_none rfl) rfl (ex_assign rfl) ?_
                      refine JL_q (wants_none rfl) rfl (ex_assign rfl) ?_
                      refine JL_nil ?_
                      refine N_then ?_
                      refine J_ret ?_
                      refine N_block_ret ?_
                      refine N_then_ret ?_
                      refine N_round_reti ?_
                      refine N_inl3 hK15 rfl (rv_tmp rfl) (rv_tmp rfl) (rv_tmp rfl) ?_
                      refine JL_q (wants_none rfl) rfl (ex_move rfl) ?_
                      refine JL_q (wants_none rfl) rfl (ex_extract rfl rfl) ?_
                      refine JL_q (wants_none rfl) rfl (ex_extract rfl rfl) ?_
                      refine JL_q (wants_none rfl) rfl (ex_extract rfl rfl) ?_
                      refine JL_q (wants_none rfl) rfl (ex_assign rfl) ?_
                      refine JL_q (wants_none rfl) rfl (ex_assign rfl) ?_
                      refine JL_q (wants_none rfl) rfl (ex_assign rfl) ?_
                      refine JL_nil ?_
                      refine N_then ?_
                      refine J_seq ?_
                      refine J_seq ?_
                      refine J_region ?_
                      refine JL_q (wants_none rfl) rfl (ex_move rfl) ?_
                      refine JL_q (wants_none rfl) rfl (ex_neq rfl rfl) ?_
                      refine JL_nil ?_
                      refine N_then ?_
                      refine J_if_true rfl (by decide) ?_
                      refine J_seq ?_
                      refine J_region ?_
                      refine JL_q (wants_none rfl) rfl (ex_move rfl) ?_
                      refine JL_q (wants_none rfl) rfl (ex_assign rfl) ?_
                      refine JL_q (wants_none rfl) rfl (ex_assign rfl) ?_
                      refine JL_nil ?_
                      refine N_then ?_
                      refine J_ret ?_
                      refine N_then_ret ?_
                      refine N_ctx (fun w hh => SH.od_nil (α := GMultiConfig) 32 hh) ?_
                      exact N_ret2 rfl (rv_tmp rfl) (rv_tmp rfl) (fun w hh => ⟨((.slice none 0 0 : Value), ([] : List Nat)), rfl, hh.sel [0] rfl⟩)
                    · refine J_skip ?_
                      refine N_block ?_
                      refine N_then ?_
                      refine J_region ?_
                      refine JL_q (wants_none rfl) rfl (ex_move rfl) ?_
                      refine JL_q (wants_none rfl) rfl (ex_add rfl rfl) ?_
                      refine JL_q (wants_none rfl) rfl (ex_assign rfl) ?_
                      refine JL_nil ?_
                      exact N_next' (g156_0, g156_1, v144, (g33_3 ++ (((x91_0 : Value).ownBlock.toList ++ x91_1) ++ []))) ⟨rfl, rfl, rfl, rfl, rfl, rfl, trivial⟩ [0, 1, 6, 7, 8, 9, 10] rfl rfl
        · obtain ⟨g33_0, g33_1, g33_2, g33_3⟩ := g33
          exact N_none

set_option maxHeartbeats 40000000 in
theorem c_laws_eqMultiConfigS (A : Nat → Prop) (w : World) (hA : ∀ k, A k → k < w.heap.size) (v0_ : Value) (p0 : (List GMultiConfig)) (hp0 : Rd A w v0_ p0) (v1_ : Value) (p1 : (List GMultiConfig)) (hp1 : Rd A w v1_ p1) (r : Bool) (hr : F_laws_eqMultiConfigS p0 p1 = some r) :
    Con Try.prog 21 [v0_, v1_] A w (fun x_ : Unit => .bool r) (fun x_ => []) := by
  refine Con_of (v := fun (r : Bool) (x_ : Unit) => .bool r) (fs := fun r x_ => []) Try.func21 rfl Try.ntmps21 rfl (((SH.start hA).start_rd rfl hp0).start_rd rfl hp1) rfl ?_ hr
  unfold F_laws_eqMultiConfigS
  refine J_seq ?_
  refine J_region ?_
  refine JL_q (wants_none rfl) rfl (ex_assign rfl) ?_
  refine JL_nil ?_
  refine N_then ?_
  refine J_seq ?_
  refine J_seq ?_
  refine J_region ?_
  refine JL_q (wants_none rfl) rfl (ex_move rfl) ?_
  refine JL_q (wants_none rfl) rfl (ex_len_rd 1 Try.underlying48 rfl rfl) ?_
  refine JL_q (wants_none rfl) rfl (ex_move rfl) ?_
  refine JL_q (wants_none rfl) rfl (ex_len_rd 0 Try.underlying48 rfl rfl) ?_
  refine JL_q (wants_none rfl) rfl (ex_neq rfl rfl) ?_
  refine JL_nil ?_
  refine N_then ?_
  refine J_if rfl (fun h1 => ?_) (fun h1 => ?_)
  · refine J_seq ?_
    refine J_region ?_
    refine JL_q (wants_none rfl) rfl (ex_assign rfl) ?_
    refine JL_nil ?_
    refine N_then ?_
    refine J_ret ?_
    refine N_then_ret ?_
    exact N_ret1 rfl (rv_tmp rfl) (fun w hh => ⟨(), rfl, hh.sel [] rfl⟩)
  · refine J_skip ?_
    refine N_then ?_
    refine J_seq ?_
    refine J_seq ?_
    refine J_region ?_
    refine JL_q (wants_none rfl) rfl (ex_assign rfl) ?_
    refine JL_nil ?_
    refine N_then ?_
    refine J_loop' (S := Int) (G := Unit) (F_laws_eqMultiConfigS_L1 p0 p1) (fun s2 _ => [(0, v0_), (1, v1_), (5, .int .i64 s2)]) (fun s2 _ => [.rd v0_ p0, .rd v1_ p1]) 0 () ⟨rfl, rfl, rfl, trivial⟩ [1, 0] rfl rfl (fun s2 g3 => ?_) (fun s2 g3 => ?_)
    · unfold F_laws_eqMultiConfigS_L1
      refine J_seq ?_
      refine J_seq ?_
      refine J_region ?_
      refine JL_q (wants_none rfl) rfl (ex_move rfl) ?_
      refine JL_q (wants_none rfl) rfl (ex_move rfl) ?_
      refine JL_q (wants_none rfl) rfl (ex_len_rd 0 Try.underlying48 rfl rfl) ?_
      refine JL_q (wants_none rfl) rfl (ex_lss rfl rfl) ?_
      refine JL_nil ?_
      refine N_then ?_
      refine J_if rfl (fun h4 => ?_) (fun h4 => ?_)
      · refine J_skip ?_
        refine N_then ?_
        refine J_seq ?_
        refine J_block ?_
        refine J_seq ?_
        refine J_draw [] (by kernel_rfl) ?_
        refine JP_take (i := 0) [0, 1] [] rfl (by kernel_rfl) (by kernel_rfl) (by kernel_rfl) rfl rfl (wants_none rfl) rfl (ex_move rfl) ?_
        refine JP_take (i := 1) [0, 1] [] rfl (by kernel_rfl) (by kernel_rfl) (by kernel_rfl) rfl rfl (wants_none rfl) rfl (ex_move rfl) ?_
        refine JP_bnd fun y5 hy6 => ?_
        refine JP_sq (i := 2) [] rfl (by kernel_rfl) (by kernel_rfl) (by kernel_rfl) rfl (wants_none rfl) rfl (sq_index 0 Try.underlying48 ti_32 rfl rfl rfl hy6) (fun q7 => ?_)
        refine JP_sq (i := 3) [] rfl (by kernel_rfl) (by kernel_rfl) (by kernel_rfl) rfl (wants_none rfl) rfl (sq_load_pt_o 0 (GMultiConfig.opens _) ti_32 rfl rfl) (fun v8 => ?_)
        refine JP_take (i := 4) [0, 1, 2, 3] [] rfl (by kernel_rfl) (by kernel_rfl) (by kernel_rfl) rfl rfl (wants_none rfl) rfl (ex_move rfl) ?_
        refine JP_take (i := 5) [0, 1, 2, 3] [] rfl (by kernel_rfl) (by kernel_rfl) (by kernel_rfl) rfl rfl (wants_none rfl) rfl (ex_move rfl) ?_
        refine JP_bnd fun y9 hy10 => ?_
        refine JP_sq (i := 6) [] rfl (by kernel_rfl) (by kernel_rfl) (by kernel_rfl) rfl (wants_none rfl) rfl (sq_index 3 Try.underlying48 ti_32 rfl rfl rfl hy10) (fun q11 => ?_)
        refine JP_sq (i := 7) [] rfl (by kernel_rfl) (by kernel_rfl) (by kernel_rfl) rfl (wants_none rfl) rfl (sq_load_pt_o 0 (GMultiConfig.opens _) ti_32 rfl rfl) (fun v12 => ?_)
        refine JP_go [0, 1, 2, 3, 4, 5] [] rfl rfl rfl (fun w14 h1_15 hp13 => ?_)
        refine JD_bnd fun r16 hr17 => ?_
        refine JD_one (i := 8) (by kernel_rfl) ?_
        refine JO_call rfl (wants_none rfl) rfl Try.call12 rfl (Ca_of0 fun w hh => c_laws_eqMultiConfig _ w (fun _ hk => hk.elim) _ _ (GMultiConfig.rdmk (Rd.mk_int _ _ _) (hh.rd0 2 rfl)) _ _ (GMultiConfig.rdmk (Rd.mk_int _ _ _) (hh.rd0 0 rfl)) _ hr17) (fun _ => ?_)
        refine JD_take (i := 9) hp13 rfl (by kernel_rfl) (by kernel_rfl) (by kernel_rfl) (wants_none rfl) rfl (ex_not rfl) ?_
        refine JD_done (by kernel_rfl) ?_
        refine N_then ?_
        refine J_if rfl (fun h18 => ?_) (fun h18 => ?_)
        · refine J_seq ?_
          refine J_region ?_
          refine JL_q (wants_none rfl) rfl (ex_assign rfl) ?_
          refine JL_nil ?_
          refine N_then ?_
          refine J_ret ?_
          refine N_block_ret ?_
          refine N_then_ret ?_
          refine N_round_ret ?_
          refine N_then_ret ?_
          exact N_ret1 rfl (rv_tmp rfl) (fun w hh => ⟨(), rfl, hh.sel [] rfl⟩)
        · refine J_skip ?_
          refine N_block ?_
          refine N_then ?_
          refine J_region ?_
          refine JL_q (wants_none rfl) rfl (ex_move rfl) ?_
          refine JL_q (wants_none rfl) rfl (ex_add rfl rfl) ?_
          refine JL_q (wants_none rfl) rfl (ex_assign rfl) ?_
          refine JL_nil ?_
          exact N_next' () ⟨rfl, rfl, rfl, trivial⟩ [4, 5] rfl rfl
      · refine J_exit ?_
        refine N_then_exit ?_
        exact N_break' () ⟨rfl, rfl, rfl, trivial⟩ [0, 1] rfl rfl
    · refine N_then ?_
      refine J_seq ?_
      refine J_region ?_
      refine JL_q (wants_none rfl) rfl (ex_assign rfl) ?_
      refine JL_nil ?_
      refine N_then ?_
      refine J_ret ?_
      exact N_ret1 rfl (rv_tmp rfl) (fun w hh => ⟨(), rfl, hh.sel [] rfl⟩)

theorem mk_laws_markMultiConfigS : MarkCon Try.prog 22 F_laws_markMultiConfigS := by
  intro w v0_ p0 B_ p1 r hd_ hn_ hr
  refine (ConM_of (vs := [v0_, .int .i64 p1]) (v := fun (r : Int × (List GMultiConfig)) (_ : Unit) => .int .i64 r.1) (fs := fun r _ => [mkr v0_ r.2 B_, rest w B_]) Try.func22 rfl Try.ntmps22 rfl (mark_start hd_ hn_) rfl ?_ hr).mono (fun e w2 h_ => by obtain ⟨_, he, hk⟩ := h_; exact ⟨he, mark_end hk⟩)
  unfold F_laws_markMultiConfigS
  refine J_seq ?_
  refine J_region ?_
  refine JL_q (wants_none rfl) rfl (ex_assign rfl) ?_
  refine JL_nil ?_
  refine N_then ?_
  refine J_seq ?_
  refine J_seq ?_
  refine J_region ?_
  refine JL_q (wants_none rfl) rfl (ex_assign rfl) ?_
  refine JL_nil ?_
  refine N_then ?_
  refine J_loop' (S := (List GMultiConfig) × Int × Int) (G := Unit) (F_laws_markMultiConfigS_L1) (fun s1 _ => [(0, v0_), (1, .int .i64 s1.2.1), (5, .int .i64 s1.2.2)]) (fun s1 _ => [rest w B_, mkr v0_ s1.1 B_]) (p0, p1, 0) () ⟨rfl, rfl, rfl, trivial⟩ [1, 0] rfl rfl (fun s1 g2 => ?_) (fun s1 g2 => ?_)
  · unfold F_laws_markMultiConfigS_L1
    refine J_seq ?_
    refine J_seq ?_
    refine J_region ?_
    refine JL_q (wants_none rfl) rfl (ex_move rfl) ?_
    refine JL_q (wants_none rfl) rfl (ex_move rfl) ?_
    refine JL_q (wants_none rfl) rfl (ex_len_mk 1 Try.underlying48 rfl rfl) ?_
    refine JL_q (wants_none rfl) rfl (ex_lss rfl rfl) ?_
    refine JL_nil ?_
    refine N_then ?_
    refine J_if rfl (fun h3 => ?_) (fun h3 => ?_)
    · refine J_skip ?_
      refine N_then ?_
      refine J_seq ?_
      refine J_block ?_
      refine J_seq ?_
      refine J_region ?_
      refine JL_q (wants_none rfl) rfl (ex_move rfl) ?_
      refine JL_q (wants_none rfl) rfl (ex_move rfl) ?_
      refine JL_q (wants_none rfl) rfl (ex_move rfl) ?_
      refine JL_bnd fun y4 hy5 => ?_
      refine JL_mk_open 1 rfl hy5 ?_; rintro b6 o8 cap7 rfl
      refine JL_q (wants_none rfl) rfl (ex_index_lit Try.underlying48 ti_32 rfl rfl hy5 (by first | rfl | simp)) ?_
      refine JL_q (wants_none rfl) rfl (ex_fieldAddr fi_32_0 rfl rfl) ?_
      refine JL_sk (wants_none rfl) (sk_store_mk 1 (GMultiConfig.fs_State _) ti_2 rfl rfl rfl hy5) ?_
      refine JL_nil ?_
      refine N_then ?_
      refine J_seq ?_
      refine J_region ?_
      refine JL_q (wants_none rfl) rfl (ex_move rfl) ?_
      refine JL_q (wants_none rfl) rfl (ex_add rfl rfl) ?_
      refine JL_q (wants_none rfl) rfl (ex_assign rfl) ?_
      refine JL_nil ?_
      refine N_then ?_
      refine J_region ?_
      refine JL_q (wants_none rfl) rfl (ex_move rfl) ?_
      refine JL_q (wants_none rfl) rfl (ex_move rfl) ?_
      refine JL_bnd fun y9 hy10 => ?_
      refine JL_q (wants_none rfl) rfl (ex_index_lit Try.underlying48 ti_32 rfl rfl hy10 (by first | rfl | simp)) ?_
      refine JL_q (wants_none rfl) rfl (ex_fieldAddr fi_32_1 rfl rfl) ?_
      refine JL_st (wants_none rfl) rfl (st_load_mk 1 (GMultiConfig.fc_Tapes _) ti_30 rfl rfl hy10) (fun u11 => ?_)
      refine JL_q (wants_none rfl) rfl (ex_move rfl) ?_
      refine JL_bnd fun r12 hr13 => ?_
      refine JL_markc 1 mk_laws_markTapeS (GMultiConfig.fc_Tapes _) (wants_none rfl) rfl Try.call37 rfl rfl hy10 hr13 ?_
      refine JL_q (wants_none rfl) rfl (ex_assign rfl) ?_
      refine JL_nil ?_
      refine N_block ?_
      refine N_then ?_
      refine J_region ?_
      refine JL_q (wants_none rfl) rfl (ex_move rfl) ?_
      refine JL_q (wants_none rfl) rfl (ex_add rfl rfl) ?_
      refine JL_q (wants_none rfl) rfl (ex_assign rfl) ?_
      refine JL_nil ?_
      exact N_next' () ⟨rfl, rfl, rfl, trivial⟩ [0, 1] rfl rfl
    · refine J_exit ?_
      refine N_then_exit ?_
      exact N_break' () ⟨rfl, rfl, rfl, trivial⟩ [0, 1] rfl rfl
  · refine N_then ?_
    refine J_seq ?_
    refine J_region ?_
    refine JL_q (wants_none rfl) rfl (ex_move rfl) ?_
    refine JL_q (wants_none rfl) rfl (ex_assign rfl) ?_
    refine JL_nil ?_
    refine N_then ?_
    refine J_ret ?_
    exact N_ret1 rfl (rv_tmp rfl) (fun w hh => ⟨(), rfl, hh.sel [1, 0] rfl⟩)

set_option maxHeartbeats 40000000 in
theorem c_laws_heldMultiConfigS (A : Nat → Prop) (w : World) (hA : ∀ k, A k → k < w.heap.size) (v0_ : Value) (p0 : (List GMultiConfig)) (hp0 : Rd A w v0_ p0) (p1 : Int) (r : Int) (hr : F_laws_heldMultiConfigS p0 p1 = some r) :
    Con Try.prog 23 [v0_, .int .i64 p1] A w (fun x_ : Unit => .int .i64 r) (fun x_ => []) := by
  refine Con_of (v := fun (r : Int) (x_ : Unit) => .int .i64 r) (fs := fun r x_ => []) Try.func23 rfl Try.ntmps23 rfl ((SH.start hA).start_rd rfl hp0) rfl ?_ hr
  unfold F_laws_heldMultiConfigS
  refine J_seq ?_
  refine J_region ?_
  refine JL_q (wants_none rfl) rfl (ex_assign rfl) ?_
  refine JL_nil ?_
  refine N_then ?_
  refine J_seq ?_
  refine J_seq ?_
  refine J_region ?_
  refine JL_q (wants_none rfl) rfl (ex_assign rfl) ?_
  refine JL_nil ?_
  refine N_then ?_
  refine J_loop' (S := Int × Int) (G := Unit) (F_laws_heldMultiConfigS_L1 p0) (fun s1 _ => [(0, v0_), (1, .int .i64 s1.1), (5, .int .i64 s1.2)]) (fun s1 _ => [.rd v0_ p0]) (p1, 0) () ⟨rfl, rfl, rfl, trivial⟩ [0] rfl rfl (fun s1 g2 => ?_) (fun s1 g2 => ?_)
  · unfold F_laws_heldMultiConfigS_L1
    refine J_seq ?_
    refine J_seq ?_
    refine J_region ?_
    refine JL_q (wants_none rfl) rfl (ex_move rfl) ?_
    refine JL_q (wants_none rfl) rfl (ex_move rfl) ?_
    refine JL_q (wants_none rfl) rfl (ex_len_rd 0 Try.underlying48 rfl rfl) ?_
    refine JL_q (wants_none rfl) rfl (ex_lss rfl rfl) ?_
    refine JL_nil ?_
    refine N_then ?_
    refine J_if rfl (fun h3 => ?_) (fun h3 => ?_)
    · refine J_skip ?_
      refine N_then ?_
      refine J_seq ?_
      refine J_block ?_
      refine J_seq ?_
      refine J_seq ?_
      refine J_region ?_
      refine JL_q (wants_none rfl) rfl (ex_move rfl) ?_
      refine JL_q (wants_none rfl) rfl (ex_move rfl) ?_
      refine JL_bnd fun y4 hy5 => ?_
      refine JL_st (wants_none rfl) rfl (st_index 0 Try.underlying48 ti_32 rfl rfl rfl hy5) (fun q6 => ?_)
      refine JL_st (wants_none rfl) rfl (st_field_pt 0 (GMultiConfig.at_State _) fi_32_0 rfl rfl rfl) (fun q7 => ?_)
      refine JL_st (wants_none rfl) rfl (st_load_pt_o 0 (opens_int _) ti_2 rfl rfl) (fun _ => ?_)
      refine JL_q (wants_none rfl) rfl (ex_move rfl) ?_
      refine JL_q (wants_none rfl) rfl (ex_neq rfl rfl) ?_
      refine JL_nil ?_
      refine N_then ?_
      refine J_if rfl (fun h9 => ?_) (fun h9 => ?_)
      · refine J_seq ?_
        refine J_region ?_
        refine JL_q (wants_none rfl) rfl (ex_assign rfl) ?_
        refine JL_nil ?_
        refine N_then ?_
        refine J_ret ?_
        refine N_then_ret ?_
        refine N_block_ret ?_
        refine N_then_ret ?_
        refine N_round_ret ?_
        refine N_then_ret ?_
        exact N_ret1 rfl (rv_tmp rfl) (fun w hh => ⟨(), rfl, hh.sel [] rfl⟩)
      · refine J_skip ?_
        refine N_then ?_
        refine J_seq ?_
        refine J_region ?_
        refine JL_q (wants_none rfl) rfl (ex_move rfl) ?_
        refine JL_q (wants_none rfl) rfl (ex_add rfl rfl) ?_
        refine JL_q (wants_none rfl) rfl (ex_assign rfl) ?_
        refine JL_nil ?_
        refine N_then ?_
        refine J_seq ?_
        refine J_region ?_
        refine JL_q (wants_none rfl) rfl (ex_move rfl) ?_
        refine JL_q (wants_none rfl) rfl (ex_move rfl) ?_
        refine JL_bnd fun y10 hy11 => ?_
        refine JL_st (wants_none rfl) rfl (st_index 2 Try.underlying48 ti_32 rfl rfl rfl hy11) (fun q12 => ?_)
        refine JL_st (wants_none rfl) rfl (st_field_pt 0 (GMultiConfig.at_Tapes _) fi_32_1 rfl rfl rfl) (fun q13 => ?_)
        refine JL_st (wants_none rfl) rfl (st_load_pt_o 0 (opens_sl _) ti_30 rfl rfl) (fun v14 => ?_)
        refine JL_q (wants_none rfl) rfl (ex_move rfl) ?_
        refine JL_bnd fun r15 hr16 => ?_
        refine JL_call (wants_none rfl) rfl Try.call38 rfl (Ca_of0 fun w hh => c_laws_heldTapeS _ w (fun _ hk => hk.elim) _ _ (hh.rd0 0 rfl) _ _ hr16) (fun _ => ?_)
        refine JL_q (wants_none rfl) rfl (ex_assign rfl) ?_
        refine JL_nil ?_
        refine N_then ?_
        refine J_seq ?_
        refine J_region ?_
        refine JL_q (wants_none rfl) rfl (ex_move rfl) ?_
        refine JL_q (wants_none rfl) rfl (ex_lss rfl rfl) ?_
        refine JL_nil ?_
        refine N_then ?_
        refine J_if rfl (fun h17 => ?_) (fun h17 => ?_)
        · refine J_seq ?_
          refine J_region ?_
          refine JL_q (wants_none rfl) rfl (ex_assign rfl) ?_
          refine JL_nil ?_
          refine N_then ?_
          refine J_ret ?_
          refine N_block_ret ?_
          refine N_then_ret ?_
          refine N_round_ret ?_
          refine N_then_ret ?_
          exact N_ret1 rfl (rv_tmp rfl) (fun w hh => ⟨(), rfl, hh.sel [] rfl⟩)
        · refine J_skip ?_
          refine N_block ?_
          refine N_then ?_
          refine J_region ?_
          refine JL_q (wants_none rfl) rfl (ex_move rfl) ?_
          refine JL_q (wants_none rfl) rfl (ex_add rfl rfl) ?_
          refine JL_q (wants_none rfl) rfl (ex_assign rfl) ?_
          refine JL_nil ?_
          exact N_next' () ⟨rfl, rfl, rfl, trivial⟩ [5] rfl rfl
    · refine J_exit ?_
      refine N_then_exit ?_
      exact N_break' () ⟨rfl, rfl, rfl, trivial⟩ [0] rfl rfl
  · refine N_then ?_
    refine J_seq ?_
    refine J_region ?_
    refine JL_q (wants_none rfl) rfl (ex_move rfl) ?_
    refine JL_q (wants_none rfl) rfl (ex_assign rfl) ?_
    refine JL_nil ?_
    refine N_then ?_
    refine J_ret ?_
    exact N_ret1 rfl (rv_tmp rfl) (fun w hh => ⟨(), rfl, hh.sel [] rfl⟩)

end Go.Proofs.Ytomiabeodgcmcaa
