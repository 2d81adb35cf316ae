/-
  Each function of the program computes what its plain function says: printed by program. No condition.
-/
import Derived.Test.YtomiabeodgcmcaaFn
import Derived.Test.YtomiabeodgcmcaaInf
import Derived.Test.YtomiabeodgcmcaaCon1
import Derived.Test.YtomiabeodgcmcaaCon3
import Derived.Test.YtomiabeodgcmcaaCon8
namespace Go.Proofs.Ytomiabeodgcmcaa
open Go Go.Tc Go.Fn
set_option linter.unusedVariables false

set_option maxHeartbeats 40000000 in
theorem c_laws_FnExactTraceMulti (A : Nat → Prop) (w : World) (hA : ∀ k, A k → k < w.heap.size) (v0_ : Value) (p0 : GMulti) (hp0 : Rd A w v0_ p0) (v1_ : Value) (p1 : GMultiConfig) (hp1 : Rd A w v1_ p1) (p2 : Int) (r : Bool) (hr : F_laws_FnExactTraceMulti p0 p1 p2 = some r) :
    Con Try.prog 5 [v0_, v1_, .int .i64 p2] A w (fun x_ : Unit => .bool r) (fun x_ => []) := by
  obtain ⟨v0_0, rfl, hp0_0⟩ := GMulti.open hp0
  obtain ⟨v1_0, rfl, hp1_0⟩ := GMultiConfig.open hp1
  refine Con_of (v := fun (r : Bool) (x_ : Unit) => .bool r) (fs := fun r x_ => []) Try.func5 rfl Try.ntmps5 rfl (((SH.start hA).start_rd rfl hp0_0).start_rd rfl hp1_0) rfl ?_ hr
  unfold F_laws_FnExactTraceMulti
  refine J_seq ?_
  refine J_region ?_
  refine JL_st (wants_none rfl) rfl (st_box' rfl (fun w hh => (cv_aggs ⟨cv_int, cv_int, cv_int, (hh.cv 1 rfl), trivial⟩))) (fun b1 => ?_)
  refine JL_st (wants_none rfl) rfl (st_box' rfl (fun w hh => (cv_aggs ⟨cv_int, (hh.cv 1 rfl), trivial⟩))) (fun b2 => ?_)
  refine JL_q (wants_none rfl) rfl (ex_assign rfl) ?_
  refine JL_nil ?_
  refine N_then ?_
  refine J_seq ?_
  refine J_region ?_
  refine JL_q (wants_none rfl) rfl (ex_assign rfl) ?_
  refine JL_nil ?_
  refine N_then ?_
  refine J_seq ?_
  refine J_region ?_
  refine JL_q (wants_none rfl) rfl (ex_load_bx_agg 1 ti_24 rfl rfl rfl rfl) ?_
  refine JL_q (wants_none rfl) rfl (ex_move rfl) ?_
  refine JL_bnd fun r3 hr4 => ?_
  refine JL_call (wants_none rfl) rfl Try.call6 rfl (Ca_of0 fun w hh => c_laws_szMulti _ w (fun _ hk => hk.elim) _ _ (GMulti.rdmk (Rd.mk_int _ _ _) (Rd.mk_int _ _ _) (Rd.mk_int _ _ _) (hh.rd0 3 rfl)) _ _ hr4) (fun _ => ?_)
  refine JL_q (wants_none rfl) rfl (ex_assign rfl) ?_
  refine JL_nil ?_
  refine N_then ?_
  refine J_seq ?_
  refine J_seq ?_
  refine J_region ?_
  refine JL_q (wants_none rfl) rfl (ex_move rfl) ?_
  refine JL_q (wants_none rfl) rfl (ex_lss rfl rfl) ?_
  refine JL_nil ?_
  refine N_then ?_
  refine J_if rfl (fun h5 => ?_) (fun h5 => ?_)
  · refine J_seq ?_
    refine J_region ?_
    refine JL_q (wants_none rfl) rfl (ex_assign rfl) ?_
    refine JL_nil ?_
    refine N_then ?_
    refine J_ret ?_
    refine N_then_ret ?_
    exact N_ret1 rfl (rv_tmp rfl) (fun w hh => ⟨(), rfl, hh.sel [] rfl⟩)
  · refine J_skip ?_
    refine N_then ?_
    refine J_seq ?_
    refine J_region ?_
    refine JL_q (wants_none rfl) rfl (ex_load_bx_agg 0 ti_27 rfl rfl rfl rfl) ?_
    refine JL_q (wants_none rfl) rfl (ex_move rfl) ?_
    refine JL_bnd fun r6 hr7 => ?_
    refine JL_call (wants_none rfl) rfl Try.call7 rfl (Ca_of0 fun w hh => c_laws_szMultiConfig _ w (fun _ hk => hk.elim) _ _ (GMultiConfig.rdmk (Rd.mk_int _ _ _) (hh.rd0 2 rfl)) _ _ hr7) (fun _ => ?_)
    refine JL_q (wants_none rfl) rfl (ex_assign rfl) ?_
    refine JL_nil ?_
    refine N_then ?_
    refine J_seq ?_
    refine J_seq ?_
    refine J_region ?_
    refine JL_q (wants_none rfl) rfl (ex_move rfl) ?_
    refine JL_q (wants_none rfl) rfl (ex_lss rfl rfl) ?_
    refine JL_nil ?_
    refine N_then ?_
    refine J_if rfl (fun h8 => ?_) (fun h8 => ?_)
    · refine J_seq ?_
      refine J_region ?_
      refine JL_q (wants_none rfl) rfl (ex_assign rfl) ?_
      refine JL_nil ?_
      refine N_then ?_
      refine J_ret ?_
      refine N_then_ret ?_
      exact N_ret1 rfl (rv_tmp rfl) (fun w hh => ⟨(), rfl, hh.sel [] rfl⟩)
    · refine J_skip ?_
      refine N_then ?_
      refine J_seq ?_
      refine J_draw [] (by kernel_rfl) ?_
      refine JP_take (i := 0) [0, 1, 2, 3] [] rfl (by kernel_rfl) (by kernel_rfl) (by kernel_rfl) rfl rfl (wants_none rfl) rfl (ex_load_bx_agg 1 ti_24 rfl rfl rfl rfl) ?_
      refine JP_take (i := 2) [0, 1, 2, 3] [] rfl (by kernel_rfl) (by kernel_rfl) (by kernel_rfl) rfl rfl (wants_none rfl) rfl (ex_load_bx_agg 0 ti_27 rfl rfl rfl rfl) ?_
      refine JP_take (i := 4) [0, 1, 2, 3] [] rfl (by kernel_rfl) (by kernel_rfl) (by kernel_rfl) rfl rfl (wants_none rfl) rfl (ex_move rfl) ?_
      refine JP_go [0, 1, 2, 3] [] rfl rfl rfl (fun w10 h1_11 hp9 => ?_)
      refine JD_bnd fun r12 hr13 => ?_
      refine JD_one (i := 1) (by kernel_rfl) ?_
      refine JO_call rfl (wants_none rfl) rfl Try.call9 rfl (Ca_self (fun _ => rfl) fun w hh => c_laws_toMulti _ w (fun _ hk => hk.elim) _ _ (GMulti.rdmk (Rd.mk_int _ _ _) (Rd.mk_int _ _ _) (Rd.mk_int _ _ _) (hh.rd0 3 rfl)) _ hr13) (fun x14 => ?_)
      obtain ⟨x14_0, x14_1⟩ := x14
      refine JD_bnd fun r15 hr16 => ?_
      refine JD_one (i := 3) (by kernel_rfl) ?_
      refine JO_call rfl (wants_none rfl) rfl Try.call10 rfl (Ca_self (fun _ => rfl) fun w hh => c_laws_toMultiConfig _ w (fun _ hk => hk.elim) _ _ (GMultiConfig.rdmk (Rd.mk_int _ _ _) (hh.rd0 3 rfl)) _ hr16) (fun x17 => ?_)
      obtain ⟨x17_0, x17_1⟩ := x17
      refine JD_bnd fun r18 hr19 => ?_
      refine JD_one (i := 5) (by kernel_rfl) ?_
      refine JO_call rfl (wants_none rfl) rfl Try.call19 rfl (Ca_self (fun _ => rfl) fun w hh => c_spec_TraceMulti _ w (fun _ hk => hk.elim) _ _ (GMulti.rdmk (Rd.mk_int _ _ _) (Rd.mk_int _ _ _) (Rd.mk_int _ _ _) (hh.od0 1 rfl)) _ _ (GMultiConfig.rdmk (Rd.mk_int _ _ _) (hh.od0 0 rfl)) _ _ hr19) (fun x20 => ?_)
      obtain ⟨x20_0, x20_1⟩ := x20
      refine JD_take (i := 6) hp9 rfl (by kernel_rfl) (by kernel_rfl) (by kernel_rfl) (wants_none rfl) rfl (ex_move rfl) ?_
      refine JD_take (i := 7) hp9 rfl (by kernel_rfl) (by kernel_rfl) (by kernel_rfl) (wants_none rfl) rfl (ex_extract rfl rfl) ?_
      refine JD_take (i := 8) hp9 rfl (by kernel_rfl) (by kernel_rfl) (by kernel_rfl) (wants_none rfl) rfl (ex_extract rfl rfl) ?_
      refine JD_take (i := 9) hp9 rfl (by kernel_rfl) (by kernel_rfl) (by kernel_rfl) (wants_none rfl) rfl (ex_assign rfl) ?_
      refine JD_take (i := 10) hp9 rfl (by kernel_rfl) (by kernel_rfl) (by kernel_rfl) (wants_none rfl) rfl (ex_assign rfl) ?_
      refine JD_done (by kernel_rfl) ?_
      refine N_then ?_
      refine J_seq ?_
      refine J_region ?_
      refine JL_q (wants_none rfl) rfl (ex_load_bx_agg 4 ti_24 rfl rfl rfl rfl) ?_
      refine JL_bnd fun r21 hr22 => ?_
      refine JL_call (wants_none rfl) rfl Try.call9 rfl (Ca_self (fun _ => rfl) fun w hh => c_laws_toMulti _ w (fun _ hk => hk.elim) _ _ (GMulti.rdmk (Rd.mk_int _ _ _) (Rd.mk_int _ _ _) (Rd.mk_int _ _ _) (hh.rd0 6 rfl)) _ hr22) (fun x23 => ?_)
      obtain ⟨x23_0, x23_1⟩ := x23
      refine JL_st (wants_none rfl) rfl (st_alloc zi_37 rfl) (fun b24 => ?_)
      refine JL_sk (wants_none rfl) (sk_store_bx' 0 ti_37 rfl rfl (fun w hh => (cv_aggs ⟨cv_int, cv_int, cv_int, (hh.cv_od 1 rfl), trivial⟩)) rfl rfl rfl rfl) ?_
      refine JL_nil ?_
      refine N_then ?_
      refine J_seq ?_
      refine J_region ?_
      refine JL_q (wants_none rfl) rfl (ex_load_bx_agg 5 ti_27 rfl rfl rfl rfl) ?_
      refine JL_bnd fun r25 hr26 => ?_
      refine JL_call (wants_none rfl) rfl Try.call10 rfl (Ca_self (fun _ => rfl) fun w hh => c_laws_toMultiConfig _ w (fun _ hk => hk.elim) _ _ (GMultiConfig.rdmk (Rd.mk_int _ _ _) (hh.rd0 7 rfl)) _ hr26) (fun x27 => ?_)
      obtain ⟨x27_0, x27_1⟩ := x27
      refine JL_st (wants_none rfl) rfl (st_alloc zi_32 rfl) (fun b28 => ?_)
      refine JL_sk (wants_none rfl) (sk_store_bx' 0 ti_32 rfl rfl (fun w hh => (cv_aggs ⟨cv_int, (hh.cv_od 1 rfl), trivial⟩)) rfl rfl rfl rfl) ?_
      refine JL_nil ?_
      refine N_then ?_
      refine J_seq ?_
      refine J_region ?_
      refine JL_q (wants_none rfl) rfl (ex_load_bx_agg 2 ti_37 rfl rfl rfl rfl) ?_
      refine JL_q (wants_none rfl) rfl (ex_load_bx_agg 0 ti_32 rfl rfl rfl rfl) ?_
      refine JL_q (wants_none rfl) rfl (ex_move rfl) ?_
      refine JL_bnd fun r29 hr30 => ?_
      refine JL_call (wants_none rfl) rfl Try.call20 rfl (Ca_self (fun _ => rfl) fun w hh => c_impl_TraceMulti _ w (fun _ hk => hk.elim) _ _ (GMulti.rdmk (Rd.mk_int _ _ _) (Rd.mk_int _ _ _) (Rd.mk_int _ _ _) (hh.od0 3 rfl)) _ _ (GMultiConfig.rdmk (Rd.mk_int _ _ _) (hh.od0 1 rfl)) _ _ hr30) (fun x31 => ?_)
      obtain ⟨x31_0, x31_1⟩ := x31
      refine JL_q (wants_none rfl) rfl (ex_move rfl) ?_
      refine JL_q (wants_none rfl) rfl (ex_extract rfl rfl) ?_
      refine JL_q (wants_none rfl) rfl (ex_extract rfl rfl) ?_
      refine JL_q (wants_none rfl) rfl (ex_assign rfl) ?_
      refine JL_q (wants_none rfl) rfl (ex_assign rfl) ?_
      refine JL_nil ?_
      refine N_then ?_
      refine J_seq ?_
      refine J_cut' (S' := Unit) (G' := Unit) (fun _ _ => [(2, .int .i64 p2), (3, .pointer (some ⟨b1, 0, none⟩)), (4, .pointer (some ⟨b2, 0, none⟩)), (8, x20_0), (9, .int .i64 r18.2), (10, .pointer (some ⟨b24, 0, none⟩)), (11, .pointer (some ⟨b28, 0, none⟩)), (12, x31_0), (13, .int .i64 r29.2)]) (fun _ _ => [.rd v0_0 p0.Rules, .bx b1 24 [.int .i64 p0.Tapes, .int .i64 p0.Symbols, .int .i64 p0.States, v0_0], .rd v1_0 p1.Tapes, .bx b2 27 [.int .i64 p1.State, v1_0], .od 32 x20_0 r18.1 x20_1, .od 68 x23_0 r21.Rules x23_1, .bx b24 37 [.int .i64 r21.Tapes, .int .i64 r21.Symbols, .int .i64 r21.States, x23_0], .od 91 x27_0 r25.Tapes x27_1, .bx b28 32 [.int .i64 r25.State, x27_0], .od 32 x31_0 r29.1 x31_1]) ?_ (fun s32 g33 => ?_)
      · refine J_seq ?_
        refine J_region ?_
        refine JL_q (wants_none rfl) rfl (ex_move rfl) ?_
        refine JL_q (wants_none rfl) rfl (ex_move rfl) ?_
        refine JL_bnd fun r34 hr35 => ?_
        refine JL_call (wants_none rfl) rfl Try.call21 rfl (Ca_of0 fun w hh => c_laws_eqMultiConfigS _ w (fun _ hk => hk.elim) _ _ (hh.od0 0 rfl) _ _ (hh.od0 5 rfl) _ hr35) (fun _ => ?_)
        refine JL_q (wants_none rfl) rfl (ex_not rfl) ?_
        refine JL_q (wants_none rfl) rfl (ex_move rfl) ?_
        refine JL_cond (fun h36 => ?_) (fun h36 => ?_)
        · refine JL_passed rfl rfl rfl h36 ?_
          refine JL_passed rfl rfl rfl h36 ?_
          refine JL_passed rfl rfl rfl h36 ?_
          refine JL_q (wants_none rfl) rfl (ex_pick_true rfl h36 rfl) ?_
          refine JL_nil ?_
          refine N_then ?_
          refine J_if_true rfl rfl ?_
          refine J_seq ?_
          refine J_region ?_
          refine JL_q (wants_none rfl) rfl (ex_assign rfl) ?_
          refine JL_nil ?_
          refine N_then ?_
          refine J_ret ?_
          refine N_mid_ret ?_
          refine N_then_ret ?_
          exact N_ret1 rfl (rv_tmp rfl) (fun w hh => ⟨(), rfl, hh.sel [] rfl⟩)
        · refine JL_q (wants_some rfl rfl rfl h36) rfl (ex_move rfl) ?_
          refine JL_q (wants_some rfl rfl rfl h36) rfl (ex_move rfl) ?_
          refine JL_q (wants_some rfl rfl rfl h36) rfl (ex_neq rfl rfl) ?_
          refine JL_q (wants_none rfl) rfl (ex_pick_false rfl h36 rfl) ?_
          refine JL_nil ?_
          refine N_then ?_
          refine J_if rfl (fun h37 => ?_) (fun h37 => ?_)
          · refine J_seq ?_
            refine J_region ?_
            refine JL_q (wants_none rfl) rfl (ex_assign rfl) ?_
            refine JL_nil ?_
            refine N_then ?_
            refine J_ret ?_
            refine N_mid_ret ?_
            refine N_then_ret ?_
            exact N_ret1 rfl (rv_tmp rfl) (fun w hh => ⟨(), rfl, hh.sel [] rfl⟩)
          · refine J_skip ?_
            exact N_meet' () ⟨rfl, rfl, rfl, rfl, rfl, rfl, rfl, rfl, rfl, trivial⟩ [11, 9, 10, 8, 5, 4, 3, 2, 1, 0] rfl rfl
      · refine N_then ?_
        refine J_seq ?_
        refine J_seq ?_
        refine J_draw [] (by kernel_rfl) ?_
        refine JP_take (i := 0) [0, 1, 2, 3, 4, 5, 6, 7, 8, 9] [] rfl (by kernel_rfl) (by kernel_rfl) (by kernel_rfl) rfl rfl (wants_none rfl) rfl (ex_load_bx_agg 6 ti_37 rfl rfl rfl rfl) ?_
        refine JP_take (i := 1) [0, 1, 2, 3, 4, 5, 6, 7, 8, 9] [] rfl (by kernel_rfl) (by kernel_rfl) (by kernel_rfl) rfl rfl (wants_none rfl) rfl (ex_load_bx_agg 1 ti_24 rfl rfl rfl rfl) ?_
        refine JP_go [0, 1, 2, 3, 4, 5, 6, 7, 8, 9] [] rfl rfl rfl (fun w39 h1_40 hp38 => ?_)
        refine JD_bnd fun r41 hr42 => ?_
        refine JD_one (i := 2) (by kernel_rfl) ?_
        refine JO_call rfl (wants_none rfl) rfl Try.call9 rfl (Ca_self (fun _ => rfl) fun w hh => c_laws_toMulti _ w (fun _ hk => hk.elim) _ _ (GMulti.rdmk (Rd.mk_int _ _ _) (Rd.mk_int _ _ _) (Rd.mk_int _ _ _) (hh.rd0 0 rfl)) _ hr42) (fun x43 => ?_)
        obtain ⟨x43_0, x43_1⟩ := x43
        refine JD_bnd fun r44 hr45 => ?_
        refine JD_one (i := 3) (by kernel_rfl) ?_
        refine JO_call rfl (wants_none rfl) rfl Try.call13 rfl (Ca_of0 fun w hh => c_laws_eqMulti _ w (fun _ hk => hk.elim) _ _ (GMulti.rdmk (Rd.mk_int _ _ _) (Rd.mk_int _ _ _) (Rd.mk_int _ _ _) (hh.od0 6 rfl)) _ _ (GMulti.rdmk (Rd.mk_int _ _ _) (Rd.mk_int _ _ _) (Rd.mk_int _ _ _) (hh.od0 0 rfl)) _ hr45) (fun _ => ?_)
        refine JD_take (i := 4) hp38 rfl (by kernel_rfl) (by kernel_rfl) (by kernel_rfl) (wants_none rfl) rfl (ex_not rfl) ?_
        refine JD_done (by kernel_rfl) ?_
        refine N_then ?_
        refine J_if rfl (fun h46 => ?_) (fun h46 => ?_)
        · refine J_seq ?_
          refine J_region ?_
          refine JL_q (wants_none rfl) rfl (ex_assign rfl) ?_
          refine JL_nil ?_
          refine N_then ?_
          refine J_ret ?_
          refine N_then_ret ?_
          exact N_ret1 rfl (rv_tmp rfl) (fun w hh => ⟨(), rfl, hh.sel [] rfl⟩)
        · refine J_skip ?_
          refine N_then ?_
          refine J_seq ?_
          refine J_seq ?_
          refine J_draw [] (by kernel_rfl) ?_
          refine JP_take (i := 0) [0, 1, 2, 3, 4, 5, 6, 7, 8, 9, 10] [] rfl (by kernel_rfl) (by kernel_rfl) (by kernel_rfl) rfl rfl (wants_none rfl) rfl (ex_load_bx_agg 9 ti_32 rfl rfl rfl rfl) ?_
          refine JP_take (i := 1) [0, 1, 2, 3, 4, 5, 6, 7, 8, 9, 10] [] rfl (by kernel_rfl) (by kernel_rfl) (by kernel_rfl) rfl rfl (wants_none rfl) rfl (ex_load_bx_agg 4 ti_27 rfl rfl rfl rfl) ?_
          refine JP_go [0, 1, 2, 3, 4, 5, 6, 7, 8, 9, 10] [] rfl rfl rfl (fun w48 h1_49 hp47 => ?_)
          refine JD_bnd fun r50 hr51 => ?_
          refine JD_one (i := 2) (by kernel_rfl) ?_
          refine JO_call rfl (wants_none rfl) rfl Try.call10 rfl (Ca_self (fun _ => rfl) fun w hh => c_laws_toMultiConfig _ w (fun _ hk => hk.elim) _ _ (GMultiConfig.rdmk (Rd.mk_int _ _ _) (hh.rd0 3 rfl)) _ hr51) (fun x52 => ?_)
          obtain ⟨x52_0, x52_1⟩ := x52
          refine JD_bnd fun r53 hr54 => ?_
          refine JD_one (i := 3) (by kernel_rfl) ?_
          refine JO_call rfl (wants_none rfl) rfl Try.call12 rfl (Ca_of0 fun w hh => c_laws_eqMultiConfig _ w (fun _ hk => hk.elim) _ _ (GMultiConfig.rdmk (Rd.mk_int _ _ _) (hh.od0 9 rfl)) _ _ (GMultiConfig.rdmk (Rd.mk_int _ _ _) (hh.od0 0 rfl)) _ hr54) (fun _ => ?_)
          refine JD_take (i := 4) hp47 rfl (by kernel_rfl) (by kernel_rfl) (by kernel_rfl) (wants_none rfl) rfl (ex_not rfl) ?_
          refine JD_done (by kernel_rfl) ?_
          refine N_then ?_
          refine J_if rfl (fun h55 => ?_) (fun h55 => ?_)
          · refine J_seq ?_
            refine J_region ?_
            refine JL_q (wants_none rfl) rfl (ex_assign rfl) ?_
            refine JL_nil ?_
            refine N_then ?_
            refine J_ret ?_
            refine N_then_ret ?_
            exact N_ret1 rfl (rv_tmp rfl) (fun w hh => ⟨(), rfl, hh.sel [] rfl⟩)
          · refine J_skip ?_
            refine N_then ?_
            refine J_seq ?_
            refine J_region ?_
            refine JL_q (wants_none rfl) rfl (ex_assign rfl) ?_
            refine JL_nil ?_
            refine N_then ?_
            refine J_seq ?_
            refine J_region ?_
            refine JL_q (wants_none rfl) rfl (ex_load_bx_agg 8 ti_37 rfl rfl rfl rfl) ?_
            refine JL_q (wants_none rfl) rfl (ex_move rfl) ?_
            refine JL_inline (wants_none rfl) rfl Try.call14 rfl Try.func14 rfl Try.ntmps14 rfl rfl (fun K_ hK56 => ?_)
            refine J_seq ?_
            refine J_region ?_
            refine JL_st (wants_none rfl) rfl (st_box' rfl (fun w hh => (cv_aggs ⟨cv_int, cv_int, cv_int, (hh.cv_od 7 rfl), trivial⟩))) (fun b57 => ?_)
            refine JL_q (wants_none rfl) rfl (ex_assign rfl) ?_
            refine JL_nil ?_
            refine N_then ?_
            refine J_seq ?_
            refine J_region ?_
            refine JL_q (wants_none rfl) rfl (ex_fieldAddr fi_37_3 rfl rfl) ?_
            refine JL_q (wants_none rfl) rfl (ex_load_bx 0 ti_35 rfl rfl rfl) ?_
            refine JL_q (wants_none rfl) rfl (ex_move rfl) ?_
            refine JL_bnd fun r58 hr59 => ?_
            refine JL_ctx (fun w hh => hh.tok 8 rfl) ?_
            refine JL_mark 0 [1, 2, 3, 5, 7, 8, 10, 11, 12, 13] mk_laws_markMultiRuleS (wants_none rfl) rfl Try.call36 rfl rfl rfl rfl (((SH.start hA).start_rd rfl hp0_0).start_rd rfl hp1_0) rfl hr59 ?_
            refine JL_q (wants_none rfl) rfl (ex_assign rfl) ?_
            refine JL_nil ?_
            refine N_then ?_
            refine J_seq ?_
            refine J_region ?_
            refine JL_q (wants_none rfl) rfl (ex_move rfl) ?_
            refine JL_q (wants_none rfl) rfl (ex_assign rfl) ?_
            refine JL_nil ?_
            refine N_then ?_
            refine J_ret ?_
            refine N_inl1 hK56 rfl (rv_tmp rfl) ?_
            refine JL_q (wants_none rfl) rfl (ex_assign rfl) ?_
            refine JL_nil ?_
            refine N_then ?_
            refine J_seq ?_
            refine J_region ?_
            refine JL_q (wants_none rfl) rfl (ex_load_bx_agg 12 ti_32 rfl rfl rfl rfl) ?_
            refine JL_q (wants_none rfl) rfl (ex_move rfl) ?_
            refine JL_inline (wants_none rfl) rfl Try.call15 rfl Try.func15 rfl Try.ntmps15 rfl rfl (fun K_ hK60 => ?_)
            refine J_seq ?_
            refine J_region ?_
            refine JL_st (wants_none rfl) rfl (st_box' rfl (fun w hh => (cv_aggs ⟨cv_int, (hh.cv_od 11 rfl), trivial⟩))) (fun b61 => ?_)
            refine JL_q (wants_none rfl) rfl (ex_assign rfl) ?_
            refine JL_nil ?_
            refine N_then ?_
            refine J_seq ?_
            refine J_region ?_
            refine JL_q (wants_none rfl) rfl (ex_fieldAddr fi_32_1 rfl rfl) ?_
            refine JL_q (wants_none rfl) rfl (ex_load_bx 0 ti_30 rfl rfl rfl) ?_
            refine JL_q (wants_none rfl) rfl (ex_move rfl) ?_
            refine JL_bnd fun r62 hr63 => ?_
            refine JL_ctx (fun w hh => hh.tok 12 rfl) ?_
            refine JL_mark 0 [1, 3, 6, 7, 8, 9, 10, 11, 12, 14, 15] mk_laws_markTapeS (wants_none rfl) rfl Try.call37 rfl rfl rfl rfl (((SH.start hA).start_rd rfl hp0_0).start_rd rfl hp1_0) rfl hr63 ?_
            refine JL_ctx (fun w hh => hh.tkn_rd 5 rfl) ?_
            refine JL_q (wants_none rfl) rfl (ex_assign rfl) ?_
            refine JL_nil ?_
            refine N_then ?_
            refine J_seq ?_
            refine J_region ?_
            refine JL_q (wants_none rfl) rfl (ex_move rfl) ?_
            refine JL_q (wants_none rfl) rfl (ex_assign rfl) ?_
            refine JL_nil ?_
            refine N_then ?_
            refine J_ret ?_
            refine N_inl1 hK60 rfl (rv_tmp rfl) ?_
            refine JL_q (wants_none rfl) rfl (ex_assign rfl) ?_
            refine JL_nil ?_
            refine N_then ?_
            refine J_seq ?_
            refine J_cut' (S' := Unit) (G' := Unit) (fun _ _ => [(2, .int .i64 p2), (3, .pointer (some ⟨b1, 0, none⟩)), (4, .pointer (some ⟨b2, 0, none⟩)), (8, x20_0), (9, .int .i64 r18.2), (12, x31_0)]) (fun _ _ => [.rd v0_0 p0.Rules, .bx b1 24 [.int .i64 p0.Tapes, .int .i64 p0.Symbols, .int .i64 p0.States, v0_0], .rd v1_0 p1.Tapes, .bx b2 27 [.int .i64 p1.State, v1_0], .od 32 x20_0 r18.1 x20_1, .od 32 x31_0 r29.1 x31_1]) ?_ (fun s64 g65 => ?_)
            · refine J_seq ?_
              refine J_region ?_
              refine JL_q (wants_none rfl) rfl (ex_move rfl) ?_
              refine JL_q (wants_none rfl) rfl (ex_lss rfl rfl) ?_
              refine JL_q (wants_none rfl) rfl (ex_move rfl) ?_
              refine JL_cond (fun h66 => ?_) (fun h66 => ?_)
              · refine JL_passed rfl rfl rfl h66 ?_
                refine JL_passed rfl rfl rfl h66 ?_
                refine JL_passed rfl rfl rfl h66 ?_
                refine JL_passed rfl rfl rfl h66 ?_
                refine JL_q (wants_none rfl) rfl (ex_pick_true rfl h66 rfl) ?_
                refine JL_q (wants_none rfl) rfl (ex_move rfl) ?_
                refine JL_passed rfl rfl rfl rfl ?_
                refine JL_passed rfl rfl rfl rfl ?_
                refine JL_passed rfl rfl rfl rfl ?_
                refine JL_q (wants_none rfl) rfl (ex_pick_true rfl rfl rfl) ?_
                refine JL_nil ?_
                refine N_then ?_
                refine J_if_true rfl rfl ?_
                refine J_seq ?_
                refine J_region ?_
                refine JL_q (wants_none rfl) rfl (ex_assign rfl) ?_
                refine JL_nil ?_
                refine N_then ?_
                refine J_ret ?_
                refine N_mid_ret ?_
                refine N_then_ret ?_
                exact N_ret1 rfl (rv_tmp rfl) (fun w hh => ⟨(), rfl, hh.sel [] rfl⟩)
              · refine JL_q (wants_some rfl rfl rfl h66) rfl (ex_move rfl) ?_
                refine JL_q (wants_some rfl rfl rfl h66) rfl (ex_move rfl) ?_
                refine JL_bnd fun r67 hr68 => ?_
                refine JL_call (wants_some rfl rfl rfl h66) rfl Try.call21 rfl (Ca_of0 fun w hh => c_laws_eqMultiConfigS _ w (fun _ hk => hk.elim) _ _ (hh.od0 15 rfl) _ _ (hh.od0 12 rfl) _ hr68) (fun _ => ?_)
                refine JL_q (wants_some rfl rfl rfl h66) rfl (ex_not rfl) ?_
                refine JL_q (wants_none rfl) rfl (ex_pick_false rfl h66 rfl) ?_
                refine JL_q (wants_none rfl) rfl (ex_move rfl) ?_
                refine JL_cond (fun h69 => ?_) (fun h69 => ?_)
                · refine JL_passed rfl rfl rfl h69 ?_
                  refine JL_passed rfl rfl rfl h69 ?_
                  refine JL_passed rfl rfl rfl h69 ?_
                  refine JL_q (wants_none rfl) rfl (ex_pick_true rfl h69 rfl) ?_
                  refine JL_nil ?_
                  refine N_then ?_
                  refine J_if_true rfl rfl ?_
                  refine J_seq ?_
                  refine J_region ?_
                  refine JL_q (wants_none rfl) rfl (ex_assign rfl) ?_
                  refine JL_nil ?_
                  refine N_then ?_
                  refine J_ret ?_
                  refine N_mid_ret ?_
                  refine N_then_ret ?_
                  exact N_ret1 rfl (rv_tmp rfl) (fun w hh => ⟨(), rfl, hh.sel [] rfl⟩)
                · refine JL_q (wants_some rfl rfl rfl h69) rfl (ex_move rfl) ?_
                  refine JL_q (wants_some rfl rfl rfl h69) rfl (ex_move rfl) ?_
                  refine JL_q (wants_some rfl rfl rfl h69) rfl (ex_neq rfl rfl) ?_
                  refine JL_q (wants_none rfl) rfl (ex_pick_false rfl h69 rfl) ?_
                  refine JL_nil ?_
                  refine N_then ?_
                  refine J_if rfl (fun h70 => ?_) (fun h70 => ?_)
                  · refine J_seq ?_
                    refine J_region ?_
                    refine JL_q (wants_none rfl) rfl (ex_assign rfl) ?_
                    refine JL_nil ?_
                    refine N_then ?_
                    refine J_ret ?_
                    refine N_mid_ret ?_
                    refine N_then_ret ?_
                    exact N_ret1 rfl (rv_tmp rfl) (fun w hh => ⟨(), rfl, hh.sel [] rfl⟩)
                  · refine J_skip ?_
                    exact N_meet' () ⟨rfl, rfl, rfl, rfl, rfl, rfl, trivial⟩ [4, 10, 3, 11, 12, 15] rfl rfl
            · refine N_then ?_
              refine J_seq ?_
              refine J_region ?_
              refine JL_q (wants_none rfl) rfl (ex_assign rfl) ?_
              refine JL_nil ?_
              refine N_then ?_
              refine J_seq ?_
              refine J_region ?_
              refine JL_q (wants_none rfl) rfl (ex_move rfl) ?_
              refine JL_q (wants_none rfl) rfl (ex_move rfl) ?_
              refine JL_bnd fun r71 hr72 => ?_
              refine JL_ctx (fun w hh => hh.tok 5 rfl) ?_
              refine JL_mark 0 [2, 4, 5] mk_laws_markMultiConfigS (wants_none rfl) rfl Try.call22 rfl rfl rfl rfl (((SH.start hA).start_rd rfl hp0_0).start_rd rfl hp1_0) rfl hr72 ?_
              refine JL_q (wants_none rfl) rfl (ex_assign rfl) ?_
              refine JL_nil ?_
              refine N_then ?_
              refine J_seq ?_
              refine J_region ?_
              refine JL_q (wants_none rfl) rfl (ex_assign rfl) ?_
              refine JL_nil ?_
              refine N_then ?_
              refine J_seq ?_
              refine J_region ?_
              refine JL_q (wants_none rfl) rfl (ex_move rfl) ?_
              refine JL_q (wants_none rfl) rfl (ex_move rfl) ?_
              refine JL_bnd fun r73 hr74 => ?_
              refine JL_call (wants_none rfl) rfl Try.call23 rfl (Ca_of0 fun w hh => c_laws_heldMultiConfigS _ w (fun _ hk => hk.elim) _ _ (hh.rd0 0 rfl) _ _ hr74) (fun _ => ?_)
              refine JL_q (wants_none rfl) rfl (ex_assign rfl) ?_
              refine JL_nil ?_
              refine N_then ?_
              refine J_seq ?_
              refine J_seq ?_
              refine J_region ?_
              refine JL_q (wants_none rfl) rfl (ex_move rfl) ?_
              refine JL_q (wants_none rfl) rfl (ex_lss rfl rfl) ?_
              refine JL_nil ?_
              refine N_then ?_
              refine J_if rfl (fun h75 => ?_) (fun h75 => ?_)
              · refine J_seq ?_
                refine J_region ?_
                refine JL_q (wants_none rfl) rfl (ex_assign rfl) ?_
                refine JL_nil ?_
                refine N_then ?_
                refine J_ret ?_
                refine N_then_ret ?_
                exact N_ret1 rfl (rv_tmp rfl) (fun w hh => ⟨(), rfl, hh.sel [] rfl⟩)
              · refine J_skip ?_
                refine N_then ?_
                refine J_seq ?_
                refine J_seq ?_
                refine J_region ?_
                refine JL_q (wants_none rfl) rfl (ex_move rfl) ?_
                refine JL_q (wants_none rfl) rfl (ex_move rfl) ?_
                refine JL_q (wants_none rfl) rfl (ex_neq rfl rfl) ?_
                refine JL_nil ?_
                refine N_then ?_
                refine J_if rfl (fun h76 => ?_) (fun h76 => ?_)
                · refine J_seq ?_
                  refine J_region ?_
                  refine JL_q (wants_none rfl) rfl (ex_assign rfl) ?_
                  refine JL_nil ?_
                  refine N_then ?_
                  refine J_ret ?_
                  refine N_then_ret ?_
                  exact N_ret1 rfl (rv_tmp rfl) (fun w hh => ⟨(), rfl, hh.sel [] rfl⟩)
                · refine J_skip ?_
                  refine N_then ?_
                  refine J_seq ?_
                  refine J_draw [] (by kernel_rfl) ?_
                  refine JP_take (i := 0) [0, 1, 2, 3, 4, 5, 6] [] rfl (by kernel_rfl) (by kernel_rfl) (by kernel_rfl) rfl rfl (wants_none rfl) rfl (ex_load_bx_agg 4 ti_24 rfl rfl rfl rfl) ?_
                  refine JP_take (i := 2) [0, 1, 2, 3, 4, 5, 6] [] rfl (by kernel_rfl) (by kernel_rfl) (by kernel_rfl) rfl rfl (wants_none rfl) rfl (ex_load_bx_agg 5 ti_27 rfl rfl rfl rfl) ?_
                  refine JP_take (i := 4) [0, 1, 2, 3, 4, 5, 6] [] rfl (by kernel_rfl) (by kernel_rfl) (by kernel_rfl) rfl rfl (wants_none rfl) rfl (ex_move rfl) ?_
                  refine JP_go [0, 1, 2, 3, 4, 5, 6] [] rfl rfl rfl (fun w78 h1_79 hp77 => ?_)
                  refine JD_bnd fun r80 hr81 => ?_
                  refine JD_one (i := 1) (by kernel_rfl) ?_
                  refine JO_call rfl (wants_none rfl) rfl Try.call9 rfl (Ca_self (fun _ => rfl) fun w hh => c_laws_toMulti _ w (fun _ hk => hk.elim) _ _ (GMulti.rdmk (Rd.mk_int _ _ _) (Rd.mk_int _ _ _) (Rd.mk_int _ _ _) (hh.rd0 3 rfl)) _ hr81) (fun x82 => ?_)
                  obtain ⟨x82_0, x82_1⟩ := x82
                  refine JD_bnd fun r83 hr84 => ?_
                  refine JD_one (i := 3) (by kernel_rfl) ?_
                  refine JO_call rfl (wants_none rfl) rfl Try.call10 rfl (Ca_self (fun _ => rfl) fun w hh => c_laws_toMultiConfig _ w (fun _ hk => hk.elim) _ _ (GMultiConfig.rdmk (Rd.mk_int _ _ _) (hh.rd0 3 rfl)) _ hr84) (fun x85 => ?_)
                  obtain ⟨x85_0, x85_1⟩ := x85
                  refine JD_bnd fun r86 hr87 => ?_
                  refine JD_one (i := 5) (by kernel_rfl) ?_
                  refine JO_call rfl (wants_none rfl) rfl Try.call20 rfl (Ca_self (fun _ => rfl) fun w hh => c_impl_TraceMulti _ w (fun _ hk => hk.elim) _ _ (GMulti.rdmk (Rd.mk_int _ _ _) (Rd.mk_int _ _ _) (Rd.mk_int _ _ _) (hh.od0 1 rfl)) _ _ (GMultiConfig.rdmk (Rd.mk_int _ _ _) (hh.od0 0 rfl)) _ _ hr87) (fun x88 => ?_)
                  obtain ⟨x88_0, x88_1⟩ := x88
                  refine JD_take (i := 6) hp77 rfl (by kernel_rfl) (by kernel_rfl) (by kernel_rfl) (wants_none rfl) rfl (ex_move rfl) ?_
                  refine JD_take (i := 7) hp77 rfl (by kernel_rfl) (by kernel_rfl) (by kernel_rfl) (wants_none rfl) rfl (ex_extract rfl rfl) ?_
                  refine JD_take (i := 8) hp77 rfl (by kernel_rfl) (by kernel_rfl) (by kernel_rfl) (wants_none rfl) rfl (ex_extract rfl rfl) ?_
                  refine JD_take (i := 9) hp77 rfl (by kernel_rfl) (by kernel_rfl) (by kernel_rfl) (wants_none rfl) rfl (ex_assign rfl) ?_
                  refine JD_take (i := 10) hp77 rfl (by kernel_rfl) (by kernel_rfl) (by kernel_rfl) (wants_none rfl) rfl (ex_assign rfl) ?_
                  refine JD_done (by kernel_rfl) ?_
                  refine N_then ?_
                  refine J_seq ?_
                  refine J_seq ?_
                  refine J_region ?_
                  refine JL_q (wants_none rfl) rfl (ex_move rfl) ?_
                  refine JL_q (wants_none rfl) rfl (ex_move rfl) ?_
                  refine JL_bnd fun r89 hr90 => ?_
                  refine JL_call (wants_none rfl) rfl Try.call21 rfl (Ca_of0 fun w hh => c_laws_eqMultiConfigS _ w (fun _ hk => hk.elim) _ _ (hh.od0 0 rfl) _ _ (hh.od0 9 rfl) _ hr90) (fun _ => ?_)
                  refine JL_q (wants_none rfl) rfl (ex_not rfl) ?_
                  refine JL_q (wants_none rfl) rfl (ex_move rfl) ?_
                  refine JL_cond (fun h91 => ?_) (fun h91 => ?_)
                  · refine JL_passed rfl rfl rfl h91 ?_
                    refine JL_passed rfl rfl rfl h91 ?_
                    refine JL_passed rfl rfl rfl h91 ?_
                    refine JL_q (wants_none rfl) rfl (ex_pick_true rfl h91 rfl) ?_
                    refine JL_nil ?_
                    refine N_then ?_
                    refine J_if_true rfl rfl ?_
                    refine J_seq ?_
                    refine J_region ?_
                    refine JL_q (wants_none rfl) rfl (ex_assign rfl) ?_
                    refine JL_nil ?_
                    refine N_then ?_
                    refine J_ret ?_
                    refine N_then_ret ?_
                    exact N_ret1 rfl (rv_tmp rfl) (fun w hh => ⟨(), rfl, hh.sel [] rfl⟩)
                  · refine JL_q (wants_some rfl rfl rfl h91) rfl (ex_move rfl) ?_
                    refine JL_q (wants_some rfl rfl rfl h91) rfl (ex_move rfl) ?_
                    refine JL_q (wants_some rfl rfl rfl h91) rfl (ex_neq rfl rfl) ?_
                    refine JL_q (wants_none rfl) rfl (ex_pick_false rfl h91 rfl) ?_
                    refine JL_nil ?_
                    refine N_then ?_
                    refine J_if rfl (fun h92 => ?_) (fun h92 => ?_)
                    · refine J_seq ?_
                      refine J_region ?_
                      refine JL_q (wants_none rfl) rfl (ex_assign rfl) ?_
                      refine JL_nil ?_
                      refine N_then ?_
                      refine J_ret ?_
                      refine N_then_ret ?_
                      exact N_ret1 rfl (rv_tmp rfl) (fun w hh => ⟨(), rfl, hh.sel [] rfl⟩)
                    · refine J_skip ?_
                      refine N_then ?_
                      refine J_seq ?_
                      refine J_region ?_
                      refine JL_q (wants_none rfl) rfl (ex_assign rfl) ?_
                      refine JL_nil ?_
                      refine N_then ?_
                      refine J_seq ?_
                      refine J_region ?_
                      refine JL_q (wants_none rfl) rfl (ex_move rfl) ?_
                      refine JL_q (wants_none rfl) rfl (ex_move rfl) ?_
                      refine JL_bnd fun r93 hr94 => ?_
                      refine JL_call (wants_none rfl) rfl Try.call23 rfl (Ca_of0 fun w hh => c_laws_heldMultiConfigS _ w (fun _ hk => hk.elim) _ _ (hh.rd0 3 rfl) _ _ hr94) (fun _ => ?_)
                      refine JL_q (wants_none rfl) rfl (ex_assign rfl) ?_
                      refine JL_nil ?_
                      refine N_then ?_
                      refine J_seq ?_
                      refine J_seq ?_
                      refine J_region ?_
                      refine JL_q (wants_none rfl) rfl (ex_move rfl) ?_
                      refine JL_q (wants_none rfl) rfl (ex_lss rfl rfl) ?_
                      refine JL_nil ?_
                      refine N_then ?_
                      refine J_if rfl (fun h95 => ?_) (fun h95 => ?_)
                      · refine J_seq ?_
                        refine J_region ?_
                        refine JL_q (wants_none rfl) rfl (ex_assign rfl) ?_
                        refine JL_nil ?_
                        refine N_then ?_
                        refine J_ret ?_
                        refine N_then_ret ?_
                        exact N_ret1 rfl (rv_tmp rfl) (fun w hh => ⟨(), rfl, hh.sel [] rfl⟩)
                      · refine J_skip ?_
                        refine N_then ?_
                        refine J_seq ?_
                        refine J_seq ?_
                        refine J_region ?_
                        refine JL_q (wants_none rfl) rfl (ex_move rfl) ?_
                        refine JL_q (wants_none rfl) rfl (ex_move rfl) ?_
                        refine JL_q (wants_none rfl) rfl (ex_neq rfl rfl) ?_
                        refine JL_nil ?_
                        refine N_then ?_
                        refine J_if rfl (fun h96 => ?_) (fun h96 => ?_)
                        · refine J_seq ?_
                          refine J_region ?_
                          refine JL_q (wants_none rfl) rfl (ex_assign rfl) ?_
                          refine JL_nil ?_
                          refine N_then ?_
                          refine J_ret ?_
                          refine N_then_ret ?_
                          exact N_ret1 rfl (rv_tmp rfl) (fun w hh => ⟨(), rfl, hh.sel [] rfl⟩)
                        · refine J_skip ?_
                          refine N_then ?_
                          refine J_seq ?_
                          refine J_region ?_
                          refine JL_q (wants_none rfl) rfl (ex_assign rfl) ?_
                          refine JL_nil ?_
                          refine N_then ?_
                          refine J_ret ?_
                          exact N_ret1 rfl (rv_tmp rfl) (fun w hh => ⟨(), rfl, hh.sel [] rfl⟩)

end Go.Proofs.Ytomiabeodgcmcaa
