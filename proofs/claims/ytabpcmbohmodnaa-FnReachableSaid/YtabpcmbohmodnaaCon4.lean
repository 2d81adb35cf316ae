/-
  Each function of the program computes what its plain function says: printed by program. No condition.
-/
import Derived.Test.YtabpcmbohmodnaaFn
import Derived.Test.YtabpcmbohmodnaaInf
import Derived.Test.YtabpcmbohmodnaaCon1
import Derived.Test.YtabpcmbohmodnaaCon2
import Derived.Test.YtabpcmbohmodnaaCon3
namespace Go.Proofs.Ytabpcmbohmodnaa
open Go Go.Tc Go.Fn
set_option linter.unusedVariables false

set_option maxHeartbeats 40000000 in
theorem c_laws_FnReachable (A : Nat → Prop) (w : World) (hA : ∀ k, A k → k < w.heap.size) (v0_ : Value) (p0 : (List (Ik .u8))) (hp0 : Rd A w v0_ p0) (v1_ : Value) (p1 : (List (Ik .u8))) (hp1 : Rd A w v1_ p1) (r : Bool) (hr : F_laws_FnReachable p0 p1 = some r) :
    Con Try.prog 3 [v0_, v1_] A w (fun x_ : Unit => .bool r) (fun x_ => []) := by
  refine Con_of (v := fun (r : Bool) (x_ : Unit) => .bool r) (fs := fun r x_ => []) Try.func3 rfl Try.ntmps3 rfl (((SH.start hA).start_rd rfl hp0).start_rd rfl hp1) rfl ?_ hr
  unfold F_laws_FnReachable
  refine J_seq ?_
  refine J_region ?_
  refine JL_q (wants_none rfl) rfl (ex_assign rfl) ?_
  refine JL_nil ?_
  refine N_then ?_
  refine J_seq ?_
  refine J_seq ?_
  refine J_region ?_
  refine JL_q (wants_none rfl) rfl (ex_move rfl) ?_
  refine JL_q (wants_none rfl) rfl (ex_move rfl) ?_
  refine JL_bnd fun r1 hr2 => ?_
  refine JL_call (wants_none rfl) rfl Try.call4 rfl (Ca_of0 fun w hh => c_laws_r8Long _ w (fun _ hk => hk.elim) _ _ (hh.rd0 1 rfl) _ _ (hh.rd0 0 rfl) _ hr2) (fun _ => ?_)
  refine JL_nil ?_
  refine N_then ?_
  refine J_if rfl (fun h3 => ?_) (fun h3 => ?_)
  · refine J_seq ?_
    refine J_region ?_
    refine JL_q (wants_none rfl) rfl (ex_assign rfl) ?_
    refine JL_nil ?_
    refine N_then ?_
    refine J_ret ?_
    refine N_then_ret ?_
    exact N_ret1 rfl (rv_tmp rfl) (fun w hh => ⟨(), rfl, hh.sel [] rfl⟩)
  · refine J_skip ?_
    refine N_then ?_
    refine J_seq ?_
    refine J_region ?_
    refine JL_q (wants_none rfl) rfl (ex_move rfl) ?_
    refine JL_bnd fun r4 hr5 => ?_
    refine JL_call (wants_none rfl) rfl Try.call5 rfl (Ca_self (fun _ => rfl) fun w hh => c_spec_R8Machine _ w (fun _ hk => hk.elim) _ _ (hh.rd0 1 rfl) _ hr5) (fun x6 => ?_)
    obtain ⟨x6_0, x6_1, x6_2⟩ := x6
    refine JL_q (wants_none rfl) rfl (ex_move rfl) ?_
    refine JL_q (wants_none rfl) rfl (ex_extract rfl rfl) ?_
    refine JL_q (wants_none rfl) rfl (ex_extract rfl rfl) ?_
    refine JL_st (wants_none rfl) rfl (st_alloc zi_26 rfl) (fun b7 => ?_)
    refine JL_st (wants_none rfl) rfl (st_alloc zi_29 rfl) (fun b8 => ?_)
    refine JL_sk (wants_none rfl) (sk_store_bx' 1 ti_26 rfl rfl (fun w hh => (cv_aggs ⟨cv_int, cv_int, (hh.cv_ow 2 rfl), trivial⟩)) rfl rfl rfl rfl) ?_
    refine JL_sk (wants_none rfl) (sk_store_bx' 0 ti_29 rfl rfl (fun w hh => (cv_aggs ⟨cv_int, (hh.cv_ow 3 rfl), (hh.cv_ow 4 rfl), trivial⟩)) rfl rfl rfl rfl) ?_
    refine JL_nil ?_
    refine N_then ?_
    refine J_seq ?_
    refine J_region ?_
    refine JL_q (wants_none rfl) rfl (ex_fieldAddr fi_29_0 rfl rfl) ?_
    refine JL_sk (wants_none rfl) (sk_store_bx' 0 ti_2 rfl rfl (fun w hh => cv_int) rfl rfl rfl rfl) ?_
    refine JL_nil ?_
    refine N_then ?_
    refine J_seq ?_
    refine J_region ?_
    refine JL_q (wants_none rfl) rfl (ex_load_bx_agg 1 ti_26 rfl rfl rfl rfl) ?_
    refine JL_bnd fun r9 hr10 => ?_
    refine JL_call (wants_none rfl) rfl Try.call6 rfl (Ca_self (fun _ => rfl) fun w hh => c_impl_PruneMachine _ w (fun _ hk => hk.elim) _ _ (GMachine.rdmk (Rd.mk_int _ _ _) (Rd.mk_int _ _ _) (hh.ow0 2 rfl)) _ hr10) (fun x11 => ?_)
    obtain ⟨x11_0, x11_1⟩ := x11
    refine JL_q (wants_none rfl) rfl (ex_move rfl) ?_
    refine JL_q (wants_none rfl) rfl (ex_extract rfl rfl) ?_
    refine JL_q (wants_none rfl) rfl (ex_extract rfl rfl) ?_
    refine JL_q (wants_none rfl) rfl (ex_extract rfl rfl) ?_
    refine JL_st (wants_none rfl) rfl (st_alloc zi_26 rfl) (fun b12 => ?_)
    refine JL_sk (wants_none rfl) (sk_store_bx' 0 ti_26 rfl rfl (fun w hh => (cv_aggs ⟨cv_int, cv_int, (hh.cv_ow 1 rfl), trivial⟩)) rfl rfl rfl rfl) ?_
    refine JL_q (wants_none rfl) rfl (ex_assign rfl) ?_
    refine JL_q (wants_none rfl) rfl (ex_assign rfl) ?_
    refine JL_nil ?_
    refine N_then ?_
    refine J_seq ?_
    refine J_cut' (S' := Unit) (G' := Unit) (fun _ _ => [(5, .pointer (some ⟨b7, 0, none⟩)), (6, .pointer (some ⟨b8, 0, none⟩)), (7, .pointer (some ⟨b12, 0, none⟩)), (8, x11_1)]) (fun _ _ => [.ow 49 x6_0 r4.1.Rules, .bx b7 26 [.int .i64 r4.1.Symbols, .int .i64 r4.1.States, x6_0], .ow 2 x6_1 r4.2.Left, .ow 2 x6_2 r4.2.Right, .bx b8 29 [.int .i64 0, x6_1, x6_2], .ow 49 x11_0 r9.1.Rules, .bx b12 26 [.int .i64 r9.1.Symbols, .int .i64 r9.1.States, x11_0], .ow 2 x11_1 r9.2.1]) ?_ (fun s13 g14 => ?_)
    · refine J_seq ?_
      refine J_region ?_
      refine JL_q (wants_none rfl) rfl (ex_move rfl) ?_
      refine JL_q (wants_none rfl) rfl (ex_neq rfl rfl) ?_
      refine JL_q (wants_none rfl) rfl (ex_move rfl) ?_
      refine JL_cond (fun h15 => ?_) (fun h15 => ?_)
      · refine JL_passed rfl rfl rfl h15 ?_
        refine JL_passed rfl rfl rfl h15 ?_
        refine JL_passed rfl rfl rfl h15 ?_
        refine JL_q (wants_none rfl) rfl (ex_pick_true rfl h15 rfl) ?_
        refine JL_q (wants_none rfl) rfl (ex_move rfl) ?_
        refine JL_passed rfl rfl rfl rfl ?_
        refine JL_passed rfl rfl rfl rfl ?_
        refine JL_passed rfl rfl rfl rfl ?_
        refine JL_passed rfl rfl rfl rfl ?_
        refine JL_passed rfl rfl rfl rfl ?_
        refine JL_q (wants_none rfl) rfl (ex_pick_true rfl rfl rfl) ?_
        refine JL_q (wants_none rfl) rfl (ex_move rfl) ?_
        refine JL_passed rfl rfl rfl rfl ?_
        refine JL_passed rfl rfl rfl rfl ?_
        refine JL_passed rfl rfl rfl rfl ?_
        refine JL_passed rfl rfl rfl rfl ?_
        refine JL_passed rfl rfl rfl rfl ?_
        refine JL_q (wants_none rfl) rfl (ex_pick_true rfl rfl rfl) ?_
        refine JL_nil ?_
        refine N_then ?_
        refine J_if_true rfl rfl ?_
        refine J_seq ?_
        refine J_region ?_
        refine JL_q (wants_none rfl) rfl (ex_assign rfl) ?_
        refine JL_nil ?_
        refine N_then ?_
        refine J_ret ?_
        refine N_mid_ret ?_
        refine N_then_ret ?_
        exact N_ret1 rfl (rv_tmp rfl) (fun w hh => ⟨(), rfl, hh.sel [] rfl⟩)
      · refine JL_q (wants_some rfl rfl rfl h15) rfl (ex_load_bx_agg 0 ti_26 rfl rfl rfl rfl) ?_
        refine JL_bnd fun r16 hr17 => ?_
        refine JL_call (wants_some rfl rfl rfl h15) rfl Try.call7 rfl (Ca_of0 fun w hh => c_impl_ValidMachine _ w (fun _ hk => hk.elim) _ _ (GMachine.rdmk (Rd.mk_int _ _ _) (Rd.mk_int _ _ _) (hh.ow0 1 rfl)) _ hr17) (fun _ => ?_)
        refine JL_q (wants_some rfl rfl rfl h15) rfl (ex_not rfl) ?_
        refine JL_q (wants_none rfl) rfl (ex_pick_false rfl h15 rfl) ?_
        refine JL_q (wants_none rfl) rfl (ex_move rfl) ?_
        refine JL_cond (fun h18 => ?_) (fun h18 => ?_)
        · refine JL_passed rfl rfl rfl h18 ?_
          refine JL_passed rfl rfl rfl h18 ?_
          refine JL_passed rfl rfl rfl h18 ?_
          refine JL_passed rfl rfl rfl h18 ?_
          refine JL_passed rfl rfl rfl h18 ?_
          refine JL_q (wants_none rfl) rfl (ex_pick_true rfl h18 rfl) ?_
          refine JL_q (wants_none rfl) rfl (ex_move rfl) ?_
          refine JL_passed rfl rfl rfl rfl ?_
          refine JL_passed rfl rfl rfl rfl ?_
          refine JL_passed rfl rfl rfl rfl ?_
          refine JL_passed rfl rfl rfl rfl ?_
          refine JL_passed rfl rfl rfl rfl ?_
          refine JL_q (wants_none rfl) rfl (ex_pick_true rfl rfl rfl) ?_
          refine JL_nil ?_
          refine N_then ?_
          refine J_if_true rfl rfl ?_
          refine J_seq ?_
          refine J_region ?_
          refine JL_q (wants_none rfl) rfl (ex_assign rfl) ?_
          refine JL_nil ?_
          refine N_then ?_
          refine J_ret ?_
          refine N_mid_ret ?_
          refine N_then_ret ?_
          exact N_ret1 rfl (rv_tmp rfl) (fun w hh => ⟨(), rfl, hh.sel [] rfl⟩)
        · refine JL_q (wants_some rfl rfl rfl h18) rfl (ex_move rfl) ?_
          refine JL_q (wants_some rfl rfl rfl h18) rfl (ex_len_ow 2 Try.underlying27 rfl rfl) ?_
          refine JL_q (wants_some rfl rfl rfl h18) rfl (ex_fieldAddr fi_26_1 rfl rfl) ?_
          refine JL_q (wants_some rfl rfl rfl h18) rfl (ex_load_bx 0 ti_2 rfl rfl rfl) ?_
          refine JL_q (wants_some rfl rfl rfl h18) rfl (ex_neq rfl rfl) ?_
          refine JL_q (wants_none rfl) rfl (ex_pick_false rfl h18 rfl) ?_
          refine JL_q (wants_none rfl) rfl (ex_move rfl) ?_
          refine JL_cond (fun h19 => ?_) (fun h19 => ?_)
          · refine JL_passed rfl rfl rfl h19 ?_
            refine JL_passed rfl rfl rfl h19 ?_
            refine JL_passed rfl rfl rfl h19 ?_
            refine JL_passed rfl rfl rfl h19 ?_
            refine JL_passed rfl rfl rfl h19 ?_
            refine JL_q (wants_none rfl) rfl (ex_pick_true rfl h19 rfl) ?_
            refine JL_nil ?_
            refine N_then ?_
            refine J_if_true rfl rfl ?_
            refine J_seq ?_
            refine J_region ?_
            refine JL_q (wants_none rfl) rfl (ex_assign rfl) ?_
            refine JL_nil ?_
            refine N_then ?_
            refine J_ret ?_
            refine N_mid_ret ?_
            refine N_then_ret ?_
            exact N_ret1 rfl (rv_tmp rfl) (fun w hh => ⟨(), rfl, hh.sel [] rfl⟩)
          · refine JL_q (wants_some rfl rfl rfl h19) rfl (ex_fieldAddr fi_26_1 rfl rfl) ?_
            refine JL_q (wants_some rfl rfl rfl h19) rfl (ex_load_bx 0 ti_2 rfl rfl rfl) ?_
            refine JL_q (wants_some rfl rfl rfl h19) rfl (ex_fieldAddr fi_26_1 rfl rfl) ?_
            refine JL_q (wants_some rfl rfl rfl h19) rfl (ex_load_bx 4 ti_2 rfl rfl rfl) ?_
            refine JL_q (wants_some rfl rfl rfl h19) rfl (ex_gtr rfl rfl) ?_
            refine JL_q (wants_none rfl) rfl (ex_pick_false rfl h19 rfl) ?_
            refine JL_nil ?_
            refine N_then ?_
            refine J_if rfl (fun h20 => ?_) (fun h20 => ?_)
            · refine J_seq ?_
              refine J_region ?_
              refine JL_q (wants_none rfl) rfl (ex_assign rfl) ?_
              refine JL_nil ?_
              refine N_then ?_
              refine J_ret ?_
              refine N_mid_ret ?_
              refine N_then_ret ?_
              exact N_ret1 rfl (rv_tmp rfl) (fun w hh => ⟨(), rfl, hh.sel [] rfl⟩)
            · refine J_skip ?_
              exact N_meet' () ⟨rfl, rfl, rfl, rfl, trivial⟩ [5, 4, 6, 7, 3, 1, 0, 2] rfl rfl
    · refine N_then ?_
      refine J_seq ?_
      refine J_region ?_
      refine JL_q (wants_none rfl) rfl (ex_load_bx_agg 1 ti_26 rfl rfl rfl rfl) ?_
      refine JL_q (wants_none rfl) rfl (ex_load_bx_agg 4 ti_29 rfl rfl rfl rfl) ?_
      refine JL_bnd fun r21 hr22 => ?_
      refine JL_call (wants_none rfl) rfl Try.call8 rfl (Ca_self (fun _ => rfl) fun w hh => c_impl_RunMachine _ w (fun _ hk => hk.elim) _ _ (GMachine.rdmk (Rd.mk_int _ _ _) (Rd.mk_int _ _ _) (hh.ow0 0 rfl)) _ _ (GConfig.rdmk (Rd.mk_int _ _ _) (hh.ow0 2 rfl) (hh.ow0 3 rfl)) _ _ hr22) (fun x23 => ?_)
      obtain ⟨x23_0, x23_1⟩ := x23
      refine JL_q (wants_none rfl) rfl (ex_move rfl) ?_
      refine JL_q (wants_none rfl) rfl (ex_extract rfl rfl) ?_
      refine JL_q (wants_none rfl) rfl (ex_extract rfl rfl) ?_
      refine JL_q (wants_none rfl) rfl (ex_extract rfl rfl) ?_
      refine JL_q (wants_none rfl) rfl (ex_extract rfl rfl) ?_
      refine JL_st (wants_none rfl) rfl (st_alloc zi_29 rfl) (fun b24 => ?_)
      refine JL_sk (wants_none rfl) (sk_store_bx' 0 ti_29 rfl rfl (fun w hh => (cv_aggs ⟨cv_int, (hh.cv_ow 1 rfl), (hh.cv_ow 2 rfl), trivial⟩)) rfl rfl rfl rfl) ?_
      refine JL_q (wants_none rfl) rfl (ex_assign rfl) ?_
      refine JL_q (wants_none rfl) rfl (ex_assign rfl) ?_
      refine JL_q (wants_none rfl) rfl (ex_assign rfl) ?_
      refine JL_nil ?_
      refine N_then ?_
      refine J_seq ?_
      refine J_region ?_
      refine JL_q (wants_none rfl) rfl (ex_load_bx_agg 9 ti_26 rfl rfl rfl rfl) ?_
      refine JL_q (wants_none rfl) rfl (ex_load_bx_agg 7 ti_29 rfl rfl rfl rfl) ?_
      refine JL_bnd fun r25 hr26 => ?_
      refine JL_call (wants_none rfl) rfl Try.call8 rfl (Ca_self (fun _ => rfl) fun w hh => c_impl_RunMachine _ w (fun _ hk => hk.elim) _ _ (GMachine.rdmk (Rd.mk_int _ _ _) (Rd.mk_int _ _ _) (hh.ow0 8 rfl)) _ _ (GConfig.rdmk (Rd.mk_int _ _ _) (hh.ow0 5 rfl) (hh.ow0 6 rfl)) _ _ hr26) (fun x27 => ?_)
      obtain ⟨x27_0, x27_1⟩ := x27
      refine JL_q (wants_none rfl) rfl (ex_move rfl) ?_
      refine JL_q (wants_none rfl) rfl (ex_extract rfl rfl) ?_
      refine JL_q (wants_none rfl) rfl (ex_extract rfl rfl) ?_
      refine JL_q (wants_none rfl) rfl (ex_extract rfl rfl) ?_
      refine JL_q (wants_none rfl) rfl (ex_extract rfl rfl) ?_
      refine JL_st (wants_none rfl) rfl (st_alloc zi_29 rfl) (fun b28 => ?_)
      refine JL_sk (wants_none rfl) (sk_store_bx' 0 ti_29 rfl rfl (fun w hh => (cv_aggs ⟨cv_int, (hh.cv_ow 1 rfl), (hh.cv_ow 2 rfl), trivial⟩)) rfl rfl rfl rfl) ?_
      refine JL_q (wants_none rfl) rfl (ex_assign rfl) ?_
      refine JL_q (wants_none rfl) rfl (ex_assign rfl) ?_
      refine JL_q (wants_none rfl) rfl (ex_assign rfl) ?_
      refine JL_nil ?_
      refine N_then ?_
      refine J_seq ?_
      refine J_cut' (S' := Unit) (G' := Unit) (fun _ _ => [(8, x11_1), (10, .pointer (some ⟨b24, 0, none⟩)), (11, .int .i64 r21.2.1), (12, .bool r21.2.2.1), (13, .int .i64 r21.2.2.2), (14, .pointer (some ⟨b28, 0, none⟩)), (15, .int .i64 r25.2.1), (16, .bool r25.2.2.1), (17, .int .i64 r25.2.2.2)]) (fun _ _ => [.ow 2 x11_1 r9.2.1, .ow 2 x23_0 r21.1.Left, .ow 2 x23_1 r21.1.Right, .bx b24 29 [.int .i64 r21.1.State, x23_0, x23_1], .ow 2 x27_0 r25.1.Left, .ow 2 x27_1 r25.1.Right, .bx b28 29 [.int .i64 r25.1.State, x27_0, x27_1]]) ?_ (fun s29 g30 => ?_)
      · refine J_seq ?_
        refine J_region ?_
        refine JL_q (wants_none rfl) rfl (ex_move rfl) ?_
        refine JL_q (wants_none rfl) rfl (ex_eql rfl rfl) ?_
        refine JL_q (wants_none rfl) rfl (ex_move rfl) ?_
        refine JL_cond (fun h31 => ?_) (fun h31 => ?_)
        · refine JL_q (wants_some rfl rfl rfl h31) rfl (ex_move rfl) ?_
          refine JL_q (wants_some rfl rfl rfl h31) rfl (ex_eql rfl rfl) ?_
          refine JL_q (wants_none rfl) rfl (ex_pick_true rfl h31 rfl) ?_
          refine JL_nil ?_
          refine N_then ?_
          refine J_if rfl (fun h32 => ?_) (fun h32 => ?_)
          · refine J_seq ?_
            refine J_region ?_
            refine JL_q (wants_none rfl) rfl (ex_assign rfl) ?_
            refine JL_nil ?_
            refine N_then ?_
            refine J_ret ?_
            refine N_mid_ret ?_
            refine N_then_ret ?_
            exact N_ret1 rfl (rv_tmp rfl) (fun w hh => ⟨(), rfl, hh.sel [] rfl⟩)
          · refine J_skip ?_
            exact N_meet' () ⟨rfl, rfl, rfl, rfl, rfl, rfl, rfl, rfl, rfl, trivial⟩ [13, 4, 5, 3, 1, 2, 0] rfl rfl
        · refine JL_passed rfl rfl rfl h31 ?_
          refine JL_passed rfl rfl rfl h31 ?_
          refine JL_q (wants_none rfl) rfl (ex_pick_false rfl h31 rfl) ?_
          refine JL_nil ?_
          refine N_then ?_
          refine J_if_false rfl rfl ?_
          refine J_skip ?_
          exact N_meet' () ⟨rfl, rfl, rfl, rfl, rfl, rfl, rfl, rfl, rfl, trivial⟩ [13, 4, 5, 3, 1, 2, 0] rfl rfl
      · refine N_then ?_
        refine J_seq ?_
        refine J_cut' (S' := Unit) (G' := Unit) (fun _ _ => [(8, x11_1), (10, .pointer (some ⟨b24, 0, none⟩)), (11, .int .i64 r21.2.1), (12, .bool r21.2.2.1), (14, .pointer (some ⟨b28, 0, none⟩)), (15, .int .i64 r25.2.1), (16, .bool r25.2.2.1)]) (fun _ _ => [.ow 2 x11_1 r9.2.1, .ow 2 x23_0 r21.1.Left, .ow 2 x23_1 r21.1.Right, .bx b24 29 [.int .i64 r21.1.State, x23_0, x23_1], .ow 2 x27_0 r25.1.Left, .ow 2 x27_1 r25.1.Right, .bx b28 29 [.int .i64 r25.1.State, x27_0, x27_1]]) ?_ (fun s33 g34 => ?_)
        · refine J_seq ?_
          refine J_region ?_
          refine JL_q (wants_none rfl) rfl (ex_move rfl) ?_
          refine JL_q (wants_none rfl) rfl (ex_neq rfl rfl) ?_
          refine JL_q (wants_none rfl) rfl (ex_move rfl) ?_
          refine JL_cond (fun h35 => ?_) (fun h35 => ?_)
          · refine JL_passed rfl rfl rfl h35 ?_
            refine JL_passed rfl rfl rfl h35 ?_
            refine JL_q (wants_none rfl) rfl (ex_pick_true rfl h35 rfl) ?_
            refine JL_q (wants_none rfl) rfl (ex_move rfl) ?_
            refine JL_passed rfl rfl rfl rfl ?_
            refine JL_passed rfl rfl rfl rfl ?_
            refine JL_passed rfl rfl rfl rfl ?_
            refine JL_q (wants_none rfl) rfl (ex_pick_true rfl rfl rfl) ?_
            refine JL_q (wants_none rfl) rfl (ex_move rfl) ?_
            refine JL_passed rfl rfl rfl rfl ?_
            refine JL_passed rfl rfl rfl rfl ?_
            refine JL_passed rfl rfl rfl rfl ?_
            refine JL_passed rfl rfl rfl rfl ?_
            refine JL_passed rfl rfl rfl rfl ?_
            refine JL_q (wants_none rfl) rfl (ex_pick_true rfl rfl rfl) ?_
            refine JL_nil ?_
            refine N_then ?_
            refine J_if_true rfl rfl ?_
            refine J_seq ?_
            refine J_region ?_
            refine JL_q (wants_none rfl) rfl (ex_assign rfl) ?_
            refine JL_nil ?_
            refine N_then ?_
            refine J_ret ?_
            refine N_mid_ret ?_
            refine N_then_ret ?_
            exact N_ret1 rfl (rv_tmp rfl) (fun w hh => ⟨(), rfl, hh.sel [] rfl⟩)
          · refine JL_q (wants_some rfl rfl rfl h35) rfl (ex_move rfl) ?_
            refine JL_q (wants_some rfl rfl rfl h35) rfl (ex_neq rfl rfl) ?_
            refine JL_q (wants_none rfl) rfl (ex_pick_false rfl h35 rfl) ?_
            refine JL_q (wants_none rfl) rfl (ex_move rfl) ?_
            refine JL_cond (fun h36 => ?_) (fun h36 => ?_)
            · refine JL_passed rfl rfl rfl h36 ?_
              refine JL_passed rfl rfl rfl h36 ?_
              refine JL_passed rfl rfl rfl h36 ?_
              refine JL_q (wants_none rfl) rfl (ex_pick_true rfl h36 rfl) ?_
              refine JL_q (wants_none rfl) rfl (ex_move rfl) ?_
              refine JL_passed rfl rfl rfl rfl ?_
              refine JL_passed rfl rfl rfl rfl ?_
              refine JL_passed rfl rfl rfl rfl ?_
              refine JL_passed rfl rfl rfl rfl ?_
              refine JL_passed rfl rfl rfl rfl ?_
              refine JL_q (wants_none rfl) rfl (ex_pick_true rfl rfl rfl) ?_
              refine JL_nil ?_
              refine N_then ?_
              refine J_if_true rfl rfl ?_
              refine J_seq ?_
              refine J_region ?_
              refine JL_q (wants_none rfl) rfl (ex_assign rfl) ?_
              refine JL_nil ?_
              refine N_then ?_
              refine J_ret ?_
              refine N_mid_ret ?_
              refine N_then_ret ?_
              exact N_ret1 rfl (rv_tmp rfl) (fun w hh => ⟨(), rfl, hh.sel [] rfl⟩)
            · refine JL_q (wants_some rfl rfl rfl h36) rfl (ex_fieldAddr fi_29_0 rfl rfl) ?_
              refine JL_q (wants_some rfl rfl rfl h36) rfl (ex_load_bx 6 ti_2 rfl rfl rfl) ?_
              refine JL_q (wants_some rfl rfl rfl h36) rfl (ex_lss rfl rfl) ?_
              refine JL_q (wants_none rfl) rfl (ex_pick_false rfl h36 rfl) ?_
              refine JL_q (wants_none rfl) rfl (ex_move rfl) ?_
              refine JL_cond (fun h37 => ?_) (fun h37 => ?_)
              · refine JL_passed rfl rfl rfl h37 ?_
                refine JL_passed rfl rfl rfl h37 ?_
                refine JL_passed rfl rfl rfl h37 ?_
                refine JL_passed rfl rfl rfl h37 ?_
                refine JL_passed rfl rfl rfl h37 ?_
                refine JL_q (wants_none rfl) rfl (ex_pick_true rfl h37 rfl) ?_
                refine JL_nil ?_
                refine N_then ?_
                refine J_if_true rfl rfl ?_
                refine J_seq ?_
                refine J_region ?_
                refine JL_q (wants_none rfl) rfl (ex_assign rfl) ?_
                refine JL_nil ?_
                refine N_then ?_
                refine J_ret ?_
                refine N_mid_ret ?_
                refine N_then_ret ?_
                exact N_ret1 rfl (rv_tmp rfl) (fun w hh => ⟨(), rfl, hh.sel [] rfl⟩)
              · refine JL_q (wants_some rfl rfl rfl h37) rfl (ex_fieldAddr fi_29_0 rfl rfl) ?_
                refine JL_q (wants_some rfl rfl rfl h37) rfl (ex_load_bx 6 ti_2 rfl rfl rfl) ?_
                refine JL_q (wants_some rfl rfl rfl h37) rfl (ex_move rfl) ?_
                refine JL_q (wants_some rfl rfl rfl h37) rfl (ex_len_ow 0 Try.underlying27 rfl rfl) ?_
                refine JL_q (wants_some rfl rfl rfl h37) rfl (ex_geq rfl rfl) ?_
                refine JL_q (wants_none rfl) rfl (ex_pick_false rfl h37 rfl) ?_
                refine JL_nil ?_
                refine N_then ?_
                refine J_if rfl (fun h38 => ?_) (fun h38 => ?_)
                · refine J_seq ?_
                  refine J_region ?_
                  refine JL_q (wants_none rfl) rfl (ex_assign rfl) ?_
                  refine JL_nil ?_
                  refine N_then ?_
                  refine J_ret ?_
                  refine N_mid_ret ?_
                  refine N_then_ret ?_
                  exact N_ret1 rfl (rv_tmp rfl) (fun w hh => ⟨(), rfl, hh.sel [] rfl⟩)
                · refine J_skip ?_
                  exact N_meet' () ⟨rfl, rfl, rfl, rfl, rfl, rfl, rfl, trivial⟩ [0, 1, 2, 3, 4, 5, 6] rfl rfl
        · refine N_then ?_
          refine J_seq ?_
          refine J_region ?_
          refine JL_q (wants_none rfl) rfl (ex_move rfl) ?_
          refine JL_q (wants_none rfl) rfl (ex_fieldAddr fi_29_0 rfl rfl) ?_
          refine JL_q (wants_none rfl) rfl (ex_load_bx 6 ti_2 rfl rfl rfl) ?_
          refine JL_bnd fun y39 hy40 => ?_
          refine JL_ow_open (v := x11_1) 0 rfl hy40 ?_; rintro b41 cap42 rfl
          refine JL_q (wants_none rfl) rfl (ex_index_ow 0 Try.underlying27 ti_2 rfl rfl rfl hy40) ?_
          refine JL_q (wants_none rfl) rfl (ex_load_ow_int 0 ti_2 rfl rfl hy40) ?_
          refine JL_q (wants_none rfl) rfl (ex_fieldAddr fi_29_0 rfl rfl) ?_
          refine JL_sk (wants_none rfl) (sk_store_bx' 6 ti_2 rfl rfl (fun w hh => cv_int) rfl rfl rfl rfl) ?_
          refine JL_nil ?_
          refine N_then ?_
          refine J_seq ?_
          refine J_region ?_
          refine JL_q (wants_none rfl) rfl (ex_move rfl) ?_
          refine JL_q (wants_none rfl) rfl (ex_move rfl) ?_
          refine JL_q (wants_none rfl) rfl (ex_eql rfl rfl) ?_
          refine JL_q (wants_none rfl) rfl (ex_move rfl) ?_
          refine JL_cond (fun h44 => ?_) (fun h44 => ?_)
          · refine JL_q (wants_some rfl rfl rfl h44) rfl (ex_move rfl) ?_
            refine JL_q (wants_some rfl rfl rfl h44) rfl (ex_move rfl) ?_
            refine JL_q (wants_some rfl rfl rfl h44) rfl (ex_eql_bool Try.underlying4 rfl rfl) ?_
            refine JL_q (wants_none rfl) rfl (ex_pick_true rfl h44 rfl) ?_
            refine JL_q (wants_none rfl) rfl (ex_move rfl) ?_
            refine JL_cond (fun h45 => ?_) (fun h45 => ?_)
            · refine JL_q (wants_some rfl rfl rfl h45) rfl (ex_load_bx_agg 3 ti_29 rfl rfl rfl rfl) ?_
              refine JL_q (wants_some rfl rfl rfl h45) rfl (ex_load_bx_agg 6 ti_29 rfl rfl rfl rfl) ?_
              refine JL_bnd fun r46 hr47 => ?_
              refine JL_call (wants_some rfl rfl rfl h45) rfl Try.call9 rfl (Ca_of0 fun w hh => c_laws_r8Config _ w (fun _ hk => hk.elim) _ _ (GConfig.rdmk (Rd.mk_int _ _ _) (hh.ow0 1 rfl) (hh.ow0 2 rfl)) _ _ (GConfig.rdmk (Rd.mk_int _ _ _) (hh.ow0 4 rfl) (hh.ow0 5 rfl)) _ hr47) (fun _ => ?_)
              refine JL_q (wants_none rfl) rfl (ex_pick_true rfl h45 rfl) ?_
              refine JL_q (wants_none rfl) rfl (ex_assign rfl) ?_
              refine JL_nil ?_
              refine N_then ?_
              refine J_ret ?_
              exact N_ret1 rfl (rv_tmp rfl) (fun w hh => ⟨(), rfl, hh.sel [] rfl⟩)
            · refine JL_passed rfl rfl rfl h45 ?_
              refine JL_passed rfl rfl rfl h45 ?_
              refine JL_passed rfl rfl rfl h45 ?_
              refine JL_q (wants_none rfl) rfl (ex_pick_false rfl h45 rfl) ?_
              refine JL_q (wants_none rfl) rfl (ex_assign rfl) ?_
              refine JL_nil ?_
              refine N_then ?_
              refine J_ret ?_
              exact N_ret1 rfl (rv_tmp rfl) (fun w hh => ⟨(), rfl, hh.sel [] rfl⟩)
          · refine JL_passed rfl rfl rfl h44 ?_
            refine JL_passed rfl rfl rfl h44 ?_
            refine JL_passed rfl rfl rfl h44 ?_
            refine JL_q (wants_none rfl) rfl (ex_pick_false rfl h44 rfl) ?_
            refine JL_q (wants_none rfl) rfl (ex_move rfl) ?_
            refine JL_passed rfl rfl rfl rfl ?_
            refine JL_passed rfl rfl rfl rfl ?_
            refine JL_passed rfl rfl rfl rfl ?_
            refine JL_q (wants_none rfl) rfl (ex_pick_false rfl rfl rfl) ?_
            refine JL_q (wants_none rfl) rfl (ex_assign rfl) ?_
            refine JL_nil ?_
            refine N_then ?_
            refine J_ret ?_
            exact N_ret1 rfl (rv_tmp rfl) (fun w hh => ⟨(), rfl, hh.sel [] rfl⟩)

end Go.Proofs.Ytabpcmbohmodnaa
