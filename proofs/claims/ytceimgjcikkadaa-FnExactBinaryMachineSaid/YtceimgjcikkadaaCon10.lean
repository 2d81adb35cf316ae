/-
  Each function of the program computes what its plain function says: printed by program. No condition.
-/
import Derived.Test.YtceimgjcikkadaaFn
import Derived.Test.YtceimgjcikkadaaInf
import Derived.Test.YtceimgjcikkadaaCon1
import Derived.Test.YtceimgjcikkadaaCon2
import Derived.Test.YtceimgjcikkadaaCon5
import Derived.Test.YtceimgjcikkadaaCon9
namespace Go.Proofs.Ytceimgjcikkadaa
open Go Go.Tc Go.Fn
set_option linter.unusedVariables false

set_option maxHeartbeats 40000000 in
theorem c_laws_FnExactBinaryMachine (A : Nat → Prop) (w : World) (hA : ∀ k, A k → k < w.heap.size) (v0_ : Value) (p0 : GMachine) (hp0 : Rd A w v0_ p0) (r : Bool) (hr : F_laws_FnExactBinaryMachine p0 = some r) :
    Con Try.prog 3 [v0_] A w (fun x_ : Unit => .bool r) (fun x_ => []) := by
  obtain ⟨v0_0, rfl, hp0_0⟩ := GMachine.open hp0
  refine Con_of (v := fun (r : Bool) (x_ : Unit) => .bool r) (fs := fun r x_ => []) Try.func3 rfl Try.ntmps3 rfl ((SH.start hA).start_rd rfl hp0_0) rfl ?_ hr
  unfold F_laws_FnExactBinaryMachine
  refine J_seq ?_
  refine J_region ?_
  refine JL_st (wants_none rfl) rfl (st_box' rfl (fun w hh => (cv_aggs ⟨cv_int, cv_int, (hh.cv 0 rfl), trivial⟩))) (fun b1 => ?_)
  refine JL_q (wants_none rfl) rfl (ex_assign rfl) ?_
  refine JL_nil ?_
  refine N_then ?_
  refine J_seq ?_
  refine J_region ?_
  refine JL_q (wants_none rfl) rfl (ex_assign rfl) ?_
  refine JL_nil ?_
  refine N_then ?_
  refine J_seq ?_
  refine J_region ?_
  refine JL_q (wants_none rfl) rfl (ex_load_bx_agg 0 ti_24 rfl rfl rfl rfl) ?_
  refine JL_q (wants_none rfl) rfl (ex_move rfl) ?_
  refine JL_bnd fun r2 hr3 => ?_
  refine JL_call (wants_none rfl) rfl Try.call8 rfl (Ca_of0 fun w hh => c_laws_szMachine _ w (fun _ hk => hk.elim) _ _ (GMachine.rdmk (Rd.mk_int _ _ _) (Rd.mk_int _ _ _) (hh.rd0 1 rfl)) _ _ hr3) (fun _ => ?_)
  refine JL_q (wants_none rfl) rfl (ex_assign rfl) ?_
  refine JL_nil ?_
  refine N_then ?_
  refine J_seq ?_
  refine J_seq ?_
  refine J_region ?_
  refine JL_q (wants_none rfl) rfl (ex_move rfl) ?_
  refine JL_q (wants_none rfl) rfl (ex_lss rfl rfl) ?_
  refine JL_nil ?_
  refine N_then ?_
  refine J_if rfl (fun h4 => ?_) (fun h4 => ?_)
  · refine J_seq ?_
    refine J_region ?_
    refine JL_q (wants_none rfl) rfl (ex_assign rfl) ?_
    refine JL_nil ?_
    refine N_then ?_
    refine J_ret ?_
    refine N_then_ret ?_
    exact N_ret1 rfl (rv_tmp rfl) (fun w hh => ⟨(), rfl, hh.sel [] rfl⟩)
  · refine J_skip ?_
    refine N_then ?_
    refine J_seq ?_
    refine J_region ?_
    refine JL_q (wants_none rfl) rfl (ex_load_bx_agg 0 ti_24 rfl rfl rfl rfl) ?_
    refine JL_bnd fun r5 hr6 => ?_
    refine JL_call (wants_none rfl) rfl Try.call10 rfl (Ca_self (fun _ => rfl) fun w hh => c_laws_toMachine _ w (fun _ hk => hk.elim) _ _ (GMachine.rdmk (Rd.mk_int _ _ _) (Rd.mk_int _ _ _) (hh.rd0 1 rfl)) _ hr6) (fun x7 => ?_)
    refine JL_bnd fun r8 hr9 => ?_
    refine JL_call (wants_none rfl) rfl Try.call9 rfl (Ca_self (fun _ => rfl) fun w hh => c_spec_BinaryMachine _ w (fun _ hk => hk.elim) _ _ (GMachine.rdmk (Rd.mk_int _ _ _) (Rd.mk_int _ _ _) (hh.ow0 0 rfl)) _ hr9) (fun x10 => ?_)
    refine JL_q (wants_none rfl) rfl (ex_move rfl) ?_
    refine JL_q (wants_none rfl) rfl (ex_extract rfl rfl) ?_
    refine JL_q (wants_none rfl) rfl (ex_extract rfl rfl) ?_
    refine JL_st (wants_none rfl) rfl (st_alloc zi_28 rfl) (fun b11 => ?_)
    refine JL_sk (wants_none rfl) (sk_store_bx' 0 ti_28 rfl rfl (fun w hh => (cv_aggs ⟨cv_int, cv_int, (hh.cv_ow 1 rfl), trivial⟩)) rfl rfl rfl rfl) ?_
    refine JL_q (wants_none rfl) rfl (ex_assign rfl) ?_
    refine JL_nil ?_
    refine N_then ?_
    refine J_seq ?_
    refine J_region ?_
    refine JL_q (wants_none rfl) rfl (ex_load_bx_agg 3 ti_24 rfl rfl rfl rfl) ?_
    refine JL_bnd fun r12 hr13 => ?_
    refine JL_call (wants_none rfl) rfl Try.call10 rfl (Ca_self (fun _ => rfl) fun w hh => c_laws_toMachine _ w (fun _ hk => hk.elim) _ _ (GMachine.rdmk (Rd.mk_int _ _ _) (Rd.mk_int _ _ _) (hh.rd0 4 rfl)) _ hr13) (fun x14 => ?_)
    refine JL_st (wants_none rfl) rfl (st_alloc zi_28 rfl) (fun b15 => ?_)
    refine JL_sk (wants_none rfl) (sk_store_bx' 0 ti_28 rfl rfl (fun w hh => (cv_aggs ⟨cv_int, cv_int, (hh.cv_ow 1 rfl), trivial⟩)) rfl rfl rfl rfl) ?_
    refine JL_nil ?_
    refine N_then ?_
    refine J_seq ?_
    refine J_region ?_
    refine JL_q (wants_none rfl) rfl (ex_load_bx_agg 0 ti_28 rfl rfl rfl rfl) ?_
    refine JL_bnd fun r16 hr17 => ?_
    refine JL_call (wants_none rfl) rfl Try.call11 rfl (Ca_self (fun _ => rfl) fun w hh => c_impl_BinaryMachine _ w (fun _ hk => hk.elim) _ _ (GMachine.rdmk (Rd.mk_int _ _ _) (Rd.mk_int _ _ _) (hh.ow0 1 rfl)) _ hr17) (fun x18 => ?_)
    refine JL_q (wants_none rfl) rfl (ex_move rfl) ?_
    refine JL_q (wants_none rfl) rfl (ex_extract rfl rfl) ?_
    refine JL_q (wants_none rfl) rfl (ex_extract rfl rfl) ?_
    refine JL_st (wants_none rfl) rfl (st_alloc zi_28 rfl) (fun b19 => ?_)
    refine JL_sk (wants_none rfl) (sk_store_bx' 0 ti_28 rfl rfl (fun w hh => (cv_aggs ⟨cv_int, cv_int, (hh.cv_ow 1 rfl), trivial⟩)) rfl rfl rfl rfl) ?_
    refine JL_q (wants_none rfl) rfl (ex_assign rfl) ?_
    refine JL_nil ?_
    refine N_then ?_
    refine J_seq ?_
    refine J_cut' (S' := Unit) (G' := Unit) (fun _ _ => [(1, .pointer (some ⟨b1, 0, none⟩)), (4, .pointer (some ⟨b11, 0, none⟩)), (5, .int .i64 r8.2), (6, .pointer (some ⟨b15, 0, none⟩)), (7, .pointer (some ⟨b19, 0, none⟩)), (8, .int .i64 r16.2)]) (fun _ _ => [.rd v0_0 p0.Rules, .bx b1 24 [.int .i64 p0.Symbols, .int .i64 p0.States, v0_0], .ow 97 x10 r8.1.Rules, .bx b11 28 [.int .i64 r8.1.Symbols, .int .i64 r8.1.States, x10], .ow 97 x14 r12.Rules, .bx b15 28 [.int .i64 r12.Symbols, .int .i64 r12.States, x14], .ow 97 x18 r16.1.Rules, .bx b19 28 [.int .i64 r16.1.Symbols, .int .i64 r16.1.States, x18]]) ?_ (fun s20 g21 => ?_)
    · refine J_seq ?_
      refine J_region ?_
      refine JL_q (wants_none rfl) rfl (ex_load_bx_agg 0 ti_28 rfl rfl rfl rfl) ?_
      refine JL_q (wants_none rfl) rfl (ex_load_bx_agg 4 ti_28 rfl rfl rfl rfl) ?_
      refine JL_bnd fun r22 hr23 => ?_
      refine JL_call (wants_none rfl) rfl Try.call12 rfl (Ca_of0 fun w hh => c_laws_eqMachine _ w (fun _ hk => hk.elim) _ _ (GMachine.rdmk (Rd.mk_int _ _ _) (Rd.mk_int _ _ _) (hh.ow0 1 rfl)) _ _ (GMachine.rdmk (Rd.mk_int _ _ _) (Rd.mk_int _ _ _) (hh.ow0 5 rfl)) _ hr23) (fun _ => ?_)
      refine JL_q (wants_none rfl) rfl (ex_not rfl) ?_
      refine JL_q (wants_none rfl) rfl (ex_move rfl) ?_
      refine JL_cond (fun h24 => ?_) (fun h24 => ?_)
      · refine JL_passed rfl rfl rfl h24 ?_
        refine JL_passed rfl rfl rfl h24 ?_
        refine JL_passed rfl rfl rfl h24 ?_
        refine JL_q (wants_none rfl) rfl (ex_pick_true rfl h24 rfl) ?_
        refine JL_nil ?_
        refine N_then ?_
        refine J_if_true rfl rfl ?_
        refine J_seq ?_
        refine J_region ?_
        refine JL_q (wants_none rfl) rfl (ex_assign rfl) ?_
        refine JL_nil ?_
        refine N_then ?_
        refine J_ret ?_
        refine N_mid_ret ?_
        refine N_then_ret ?_
        exact N_ret1 rfl (rv_tmp rfl) (fun w hh => ⟨(), rfl, hh.sel [] rfl⟩)
      · refine JL_q (wants_some rfl rfl rfl h24) rfl (ex_move rfl) ?_
        refine JL_q (wants_some rfl rfl rfl h24) rfl (ex_move rfl) ?_
        refine JL_q (wants_some rfl rfl rfl h24) rfl (ex_neq rfl rfl) ?_
        refine JL_q (wants_none rfl) rfl (ex_pick_false rfl h24 rfl) ?_
        refine JL_nil ?_
        refine N_then ?_
        refine J_if rfl (fun h25 => ?_) (fun h25 => ?_)
        · refine J_seq ?_
          refine J_region ?_
          refine JL_q (wants_none rfl) rfl (ex_assign rfl) ?_
          refine JL_nil ?_
          refine N_then ?_
          refine J_ret ?_
          refine N_mid_ret ?_
          refine N_then_ret ?_
          exact N_ret1 rfl (rv_tmp rfl) (fun w hh => ⟨(), rfl, hh.sel [] rfl⟩)
        · refine J_skip ?_
          exact N_meet' () ⟨rfl, rfl, rfl, rfl, rfl, rfl, trivial⟩ [8, 7, 5, 4, 3, 2, 1, 0] rfl rfl
    · refine N_then ?_
      refine J_seq ?_
      refine J_seq ?_
      refine J_draw [] (by kernel_rfl) ?_
      refine JP_take (i := 0) [0, 1, 2, 3, 4, 5, 6, 7] [] rfl (by kernel_rfl) (by kernel_rfl) (by kernel_rfl) rfl rfl (wants_none rfl) rfl (ex_load_bx_agg 5 ti_28 rfl rfl rfl rfl) ?_
      refine JP_take (i := 1) [0, 1, 2, 3, 4, 5, 6, 7] [] rfl (by kernel_rfl) (by kernel_rfl) (by kernel_rfl) rfl rfl (wants_none rfl) rfl (ex_load_bx_agg 1 ti_24 rfl rfl rfl rfl) ?_
      refine JP_go [0, 1, 2, 3, 4, 5, 6, 7] [] rfl rfl rfl (fun w27 h1_28 hp26 => ?_)
      refine JD_bnd fun r29 hr30 => ?_
      refine JD_one (i := 2) (by kernel_rfl) ?_
      refine JO_call rfl (wants_none rfl) rfl Try.call10 rfl (Ca_self (fun _ => rfl) fun w hh => c_laws_toMachine _ w (fun _ hk => hk.elim) _ _ (GMachine.rdmk (Rd.mk_int _ _ _) (Rd.mk_int _ _ _) (hh.rd0 0 rfl)) _ hr30) (fun x31 => ?_)
      refine JD_bnd fun r32 hr33 => ?_
      refine JD_one (i := 3) (by kernel_rfl) ?_
      refine JO_call rfl (wants_none rfl) rfl Try.call12 rfl (Ca_of0 fun w hh => c_laws_eqMachine _ w (fun _ hk => hk.elim) _ _ (GMachine.rdmk (Rd.mk_int _ _ _) (Rd.mk_int _ _ _) (hh.ow0 5 rfl)) _ _ (GMachine.rdmk (Rd.mk_int _ _ _) (Rd.mk_int _ _ _) (hh.ow0 0 rfl)) _ hr33) (fun _ => ?_)
      refine JD_take (i := 4) hp26 rfl (by kernel_rfl) (by kernel_rfl) (by kernel_rfl) (wants_none rfl) rfl (ex_not rfl) ?_
      refine JD_done (by kernel_rfl) ?_
      refine N_then ?_
      refine J_if rfl (fun h34 => ?_) (fun h34 => ?_)
      · refine J_seq ?_
        refine J_region ?_
        refine JL_q (wants_none rfl) rfl (ex_assign rfl) ?_
        refine JL_nil ?_
        refine N_then ?_
        refine J_ret ?_
        refine N_then_ret ?_
        exact N_ret1 rfl (rv_tmp rfl) (fun w hh => ⟨(), rfl, hh.sel [] rfl⟩)
      · refine J_skip ?_
        refine N_then ?_
        refine J_seq ?_
        refine J_region ?_
        refine JL_q (wants_none rfl) rfl (ex_assign rfl) ?_
        refine JL_nil ?_
        refine N_then ?_
        refine J_seq ?_
        refine J_region ?_
        refine JL_q (wants_none rfl) rfl (ex_load_bx_agg 6 ti_28 rfl rfl rfl rfl) ?_
        refine JL_q (wants_none rfl) rfl (ex_move rfl) ?_
        refine JL_inline (wants_none rfl) rfl Try.call13 rfl Try.func13 rfl Try.ntmps13 rfl rfl (fun K_ hK35 => ?_)
        refine J_seq ?_
        refine J_region ?_
        refine JL_st (wants_none rfl) rfl (st_box' rfl (fun w hh => (cv_aggs ⟨cv_int, cv_int, (hh.cv_ow 5 rfl), trivial⟩))) (fun b36 => ?_)
        refine JL_q (wants_none rfl) rfl (ex_assign rfl) ?_
        refine JL_nil ?_
        refine N_then ?_
        refine J_seq ?_
        refine J_region ?_
        refine JL_q (wants_none rfl) rfl (ex_fieldAddr fi_28_2 rfl rfl) ?_
        refine JL_q (wants_none rfl) rfl (ex_load_bx 0 ti_26 rfl rfl rfl) ?_
        refine JL_q (wants_none rfl) rfl (ex_move rfl) ?_
        refine JL_bnd fun r37 hr38 => ?_
        refine JL_ctx (fun w hh => hh.tokf 6 rfl rfl) ?_
        refine JL_mark 0 [1, 2, 4, 5, 6, 8, 9, 10] mk_laws_markRuleS (wants_none rfl) rfl Try.call36 rfl rfl rfl rfl ((SH.start hA).start_rd rfl hp0_0) rfl hr38 ?_
        refine JL_q (wants_none rfl) rfl (ex_assign rfl) ?_
        refine JL_nil ?_
        refine N_then ?_
        refine J_seq ?_
        refine J_region ?_
        refine JL_q (wants_none rfl) rfl (ex_move rfl) ?_
        refine JL_q (wants_none rfl) rfl (ex_assign rfl) ?_
        refine JL_nil ?_
        refine N_then ?_
        refine J_ret ?_
        refine N_inl1 hK35 rfl (rv_tmp rfl) ?_
        refine JL_q (wants_none rfl) rfl (ex_assign rfl) ?_
        refine JL_nil ?_
        refine N_then ?_
        refine J_seq ?_
        refine J_cut' (S' := Unit) (G' := Unit) (fun _ _ => [(1, .pointer (some ⟨b1, 0, none⟩)), (4, .pointer (some ⟨b11, 0, none⟩)), (5, .int .i64 r8.2), (7, .pointer (some ⟨b19, 0, none⟩))]) (fun _ _ => [.rd v0_0 p0.Rules, .bx b1 24 [.int .i64 p0.Symbols, .int .i64 p0.States, v0_0], .ow 97 x10 r8.1.Rules, .bx b11 28 [.int .i64 r8.1.Symbols, .int .i64 r8.1.States, x10], .ow 97 x18 r16.1.Rules, .bx b19 28 [.int .i64 r16.1.Symbols, .int .i64 r16.1.States, x18]]) ?_ (fun s39 g40 => ?_)
        · refine J_seq ?_
          refine J_region ?_
          refine JL_q (wants_none rfl) rfl (ex_move rfl) ?_
          refine JL_q (wants_none rfl) rfl (ex_lss rfl rfl) ?_
          refine JL_q (wants_none rfl) rfl (ex_move rfl) ?_
          refine JL_cond (fun h41 => ?_) (fun h41 => ?_)
          · refine JL_passed rfl rfl rfl h41 ?_
            refine JL_passed rfl rfl rfl h41 ?_
            refine JL_passed rfl rfl rfl h41 ?_
            refine JL_passed rfl rfl rfl h41 ?_
            refine JL_q (wants_none rfl) rfl (ex_pick_true rfl h41 rfl) ?_
            refine JL_q (wants_none rfl) rfl (ex_move rfl) ?_
            refine JL_passed rfl rfl rfl rfl ?_
            refine JL_passed rfl rfl rfl rfl ?_
            refine JL_passed rfl rfl rfl rfl ?_
            refine JL_q (wants_none rfl) rfl (ex_pick_true rfl rfl rfl) ?_
            refine JL_nil ?_
            refine N_then ?_
            refine J_if_true rfl rfl ?_
            refine J_seq ?_
            refine J_region ?_
            refine JL_q (wants_none rfl) rfl (ex_assign rfl) ?_
            refine JL_nil ?_
            refine N_then ?_
            refine J_ret ?_
            refine N_mid_ret ?_
            refine N_then_ret ?_
            exact N_ret1 rfl (rv_tmp rfl) (fun w hh => ⟨(), rfl, hh.sel [] rfl⟩)
          · refine JL_q (wants_some rfl rfl rfl h41) rfl (ex_load_bx_agg 10 ti_28 rfl rfl rfl rfl) ?_
            refine JL_q (wants_some rfl rfl rfl h41) rfl (ex_load_bx_agg 7 ti_28 rfl rfl rfl rfl) ?_
            refine JL_bnd fun r42 hr43 => ?_
            refine JL_call (wants_some rfl rfl rfl h41) rfl Try.call12 rfl (Ca_of0 fun w hh => c_laws_eqMachine _ w (fun _ hk => hk.elim) _ _ (GMachine.rdmk (Rd.mk_int _ _ _) (Rd.mk_int _ _ _) (hh.ow0 9 rfl)) _ _ (GMachine.rdmk (Rd.mk_int _ _ _) (Rd.mk_int _ _ _) (hh.ow0 6 rfl)) _ hr43) (fun _ => ?_)
            refine JL_q (wants_some rfl rfl rfl h41) rfl (ex_not rfl) ?_
            refine JL_q (wants_none rfl) rfl (ex_pick_false rfl h41 rfl) ?_
            refine JL_q (wants_none rfl) rfl (ex_move rfl) ?_
            refine JL_cond (fun h44 => ?_) (fun h44 => ?_)
            · refine JL_passed rfl rfl rfl h44 ?_
              refine JL_passed rfl rfl rfl h44 ?_
              refine JL_passed rfl rfl rfl h44 ?_
              refine JL_q (wants_none rfl) rfl (ex_pick_true rfl h44 rfl) ?_
              refine JL_nil ?_
              refine N_then ?_
              refine J_if_true rfl rfl ?_
              refine J_seq ?_
              refine J_region ?_
              refine JL_q (wants_none rfl) rfl (ex_assign rfl) ?_
              refine JL_nil ?_
              refine N_then ?_
              refine J_ret ?_
              refine N_mid_ret ?_
              refine N_then_ret ?_
              exact N_ret1 rfl (rv_tmp rfl) (fun w hh => ⟨(), rfl, hh.sel [] rfl⟩)
            · refine JL_q (wants_some rfl rfl rfl h44) rfl (ex_move rfl) ?_
              refine JL_q (wants_some rfl rfl rfl h44) rfl (ex_move rfl) ?_
              refine JL_q (wants_some rfl rfl rfl h44) rfl (ex_neq rfl rfl) ?_
              refine JL_q (wants_none rfl) rfl (ex_pick_false rfl h44 rfl) ?_
              refine JL_nil ?_
              refine N_then ?_
              refine J_if rfl (fun h45 => ?_) (fun h45 => ?_)
              · refine J_seq ?_
                refine J_region ?_
                refine JL_q (wants_none rfl) rfl (ex_assign rfl) ?_
                refine JL_nil ?_
                refine N_then ?_
                refine J_ret ?_
                refine N_mid_ret ?_
                refine N_then_ret ?_
                exact N_ret1 rfl (rv_tmp rfl) (fun w hh => ⟨(), rfl, hh.sel [] rfl⟩)
              · refine J_skip ?_
                exact N_meet' () ⟨rfl, rfl, rfl, rfl, trivial⟩ [2, 5, 6, 7, 9, 10] rfl rfl
        · refine N_then ?_
          refine J_seq ?_
          refine J_region ?_
          refine JL_q (wants_none rfl) rfl (ex_assign rfl) ?_
          refine JL_nil ?_
          refine N_then ?_
          refine J_seq ?_
          refine J_region ?_
          refine JL_q (wants_none rfl) rfl (ex_load_bx_agg 5 ti_28 rfl rfl rfl rfl) ?_
          refine JL_q (wants_none rfl) rfl (ex_move rfl) ?_
          refine JL_inline (wants_none rfl) rfl Try.call13 rfl Try.func13 rfl Try.ntmps13 rfl rfl (fun K_ hK46 => ?_)
          refine J_seq ?_
          refine J_region ?_
          refine JL_st (wants_none rfl) rfl (st_box' rfl (fun w hh => (cv_aggs ⟨cv_int, cv_int, (hh.cv_ow 4 rfl), trivial⟩))) (fun b47 => ?_)
          refine JL_q (wants_none rfl) rfl (ex_assign rfl) ?_
          refine JL_nil ?_
          refine N_then ?_
          refine J_seq ?_
          refine J_region ?_
          refine JL_q (wants_none rfl) rfl (ex_fieldAddr fi_28_2 rfl rfl) ?_
          refine JL_q (wants_none rfl) rfl (ex_load_bx 0 ti_26 rfl rfl rfl) ?_
          refine JL_q (wants_none rfl) rfl (ex_move rfl) ?_
          refine JL_bnd fun r48 hr49 => ?_
          refine JL_ctx (fun w hh => hh.tokf 5 rfl rfl) ?_
          refine JL_mark 0 [1, 3, 4, 5, 7] mk_laws_markRuleS (wants_none rfl) rfl Try.call36 rfl rfl rfl rfl ((SH.start hA).start_rd rfl hp0_0) rfl hr49 ?_
          refine JL_q (wants_none rfl) rfl (ex_assign rfl) ?_
          refine JL_nil ?_
          refine N_then ?_
          refine J_seq ?_
          refine J_region ?_
          refine JL_q (wants_none rfl) rfl (ex_move rfl) ?_
          refine JL_q (wants_none rfl) rfl (ex_assign rfl) ?_
          refine JL_nil ?_
          refine N_then ?_
          refine J_ret ?_
          refine N_inl1 hK46 rfl (rv_tmp rfl) ?_
          refine JL_q (wants_none rfl) rfl (ex_assign rfl) ?_
          refine JL_nil ?_
          refine N_then ?_
          refine J_seq ?_
          refine J_region ?_
          refine JL_q (wants_none rfl) rfl (ex_assign rfl) ?_
          refine JL_nil ?_
          refine N_then ?_
          refine J_seq ?_
          refine J_region ?_
          refine JL_q (wants_none rfl) rfl (ex_load_bx_agg 7 ti_28 rfl rfl rfl rfl) ?_
          refine JL_q (wants_none rfl) rfl (ex_move rfl) ?_
          refine JL_bnd fun r50 hr51 => ?_
          refine JL_call (wants_none rfl) rfl Try.call14 rfl (Ca_of0 fun w hh => c_laws_heldMachine _ w (fun _ hk => hk.elim) _ _ (GMachine.rdmk (Rd.mk_int _ _ _) (Rd.mk_int _ _ _) (hh.rd0 0 rfl)) _ _ hr51) (fun _ => ?_)
          refine JL_q (wants_none rfl) rfl (ex_assign rfl) ?_
          refine JL_nil ?_
          refine N_then ?_
          refine J_seq ?_
          refine J_seq ?_
          refine J_region ?_
          refine JL_q (wants_none rfl) rfl (ex_move rfl) ?_
          refine JL_q (wants_none rfl) rfl (ex_lss rfl rfl) ?_
          refine JL_nil ?_
          refine N_then ?_
          refine J_if rfl (fun h52 => ?_) (fun h52 => ?_)
          · refine J_seq ?_
            refine J_region ?_
            refine JL_q (wants_none rfl) rfl (ex_assign rfl) ?_
            refine JL_nil ?_
            refine N_then ?_
            refine J_ret ?_
            refine N_then_ret ?_
            exact N_ret1 rfl (rv_tmp rfl) (fun w hh => ⟨(), rfl, hh.sel [] rfl⟩)
          · refine J_skip ?_
            refine N_then ?_
            refine J_seq ?_
            refine J_seq ?_
            refine J_region ?_
            refine JL_q (wants_none rfl) rfl (ex_move rfl) ?_
            refine JL_q (wants_none rfl) rfl (ex_move rfl) ?_
            refine JL_q (wants_none rfl) rfl (ex_neq rfl rfl) ?_
            refine JL_nil ?_
            refine N_then ?_
            refine J_if rfl (fun h53 => ?_) (fun h53 => ?_)
            · refine J_seq ?_
              refine J_region ?_
              refine JL_q (wants_none rfl) rfl (ex_assign rfl) ?_
              refine JL_nil ?_
              refine N_then ?_
              refine J_ret ?_
              refine N_then_ret ?_
              exact N_ret1 rfl (rv_tmp rfl) (fun w hh => ⟨(), rfl, hh.sel [] rfl⟩)
            · refine J_skip ?_
              refine N_then ?_
              refine J_seq ?_
              refine J_region ?_
              refine JL_q (wants_none rfl) rfl (ex_load_bx_agg 4 ti_24 rfl rfl rfl rfl) ?_
              refine JL_bnd fun r54 hr55 => ?_
              refine JL_call (wants_none rfl) rfl Try.call10 rfl (Ca_self (fun _ => rfl) fun w hh => c_laws_toMachine _ w (fun _ hk => hk.elim) _ _ (GMachine.rdmk (Rd.mk_int _ _ _) (Rd.mk_int _ _ _) (hh.rd0 2 rfl)) _ hr55) (fun x56 => ?_)
              refine JL_bnd fun r57 hr58 => ?_
              refine JL_call (wants_none rfl) rfl Try.call11 rfl (Ca_self (fun _ => rfl) fun w hh => c_impl_BinaryMachine _ w (fun _ hk => hk.elim) _ _ (GMachine.rdmk (Rd.mk_int _ _ _) (Rd.mk_int _ _ _) (hh.ow0 0 rfl)) _ hr58) (fun x59 => ?_)
              refine JL_q (wants_none rfl) rfl (ex_move rfl) ?_
              refine JL_q (wants_none rfl) rfl (ex_extract rfl rfl) ?_
              refine JL_q (wants_none rfl) rfl (ex_extract rfl rfl) ?_
              refine JL_st (wants_none rfl) rfl (st_alloc zi_28 rfl) (fun b60 => ?_)
              refine JL_sk (wants_none rfl) (sk_store_bx' 0 ti_28 rfl rfl (fun w hh => (cv_aggs ⟨cv_int, cv_int, (hh.cv_ow 1 rfl), trivial⟩)) rfl rfl rfl rfl) ?_
              refine JL_q (wants_none rfl) rfl (ex_assign rfl) ?_
              refine JL_nil ?_
              refine N_then ?_
              refine J_seq ?_
              refine J_seq ?_
              refine J_region ?_
              refine JL_q (wants_none rfl) rfl (ex_load_bx_agg 0 ti_28 rfl rfl rfl rfl) ?_
              refine JL_q (wants_none rfl) rfl (ex_load_bx_agg 9 ti_28 rfl rfl rfl rfl) ?_
              refine JL_bnd fun r61 hr62 => ?_
              refine JL_call (wants_none rfl) rfl Try.call12 rfl (Ca_of0 fun w hh => c_laws_eqMachine _ w (fun _ hk => hk.elim) _ _ (GMachine.rdmk (Rd.mk_int _ _ _) (Rd.mk_int _ _ _) (hh.ow0 1 rfl)) _ _ (GMachine.rdmk (Rd.mk_int _ _ _) (Rd.mk_int _ _ _) (hh.ow0 8 rfl)) _ hr62) (fun _ => ?_)
              refine JL_q (wants_none rfl) rfl (ex_not rfl) ?_
              refine JL_q (wants_none rfl) rfl (ex_move rfl) ?_
              refine JL_cond (fun h63 => ?_) (fun h63 => ?_)
              · refine JL_passed rfl rfl rfl h63 ?_
                refine JL_passed rfl rfl rfl h63 ?_
                refine JL_passed rfl rfl rfl h63 ?_
                refine JL_q (wants_none rfl) rfl (ex_pick_true rfl h63 rfl) ?_
                refine JL_nil ?_
                refine N_then ?_
                refine J_if_true rfl rfl ?_
                refine J_seq ?_
                refine J_region ?_
                refine JL_q (wants_none rfl) rfl (ex_assign rfl) ?_
                refine JL_nil ?_
                refine N_then ?_
                refine J_ret ?_
                refine N_then_ret ?_
                exact N_ret1 rfl (rv_tmp rfl) (fun w hh => ⟨(), rfl, hh.sel [] rfl⟩)
              · refine JL_q (wants_some rfl rfl rfl h63) rfl (ex_move rfl) ?_
                refine JL_q (wants_some rfl rfl rfl h63) rfl (ex_move rfl) ?_
                refine JL_q (wants_some rfl rfl rfl h63) rfl (ex_neq rfl rfl) ?_
                refine JL_q (wants_none rfl) rfl (ex_pick_false rfl h63 rfl) ?_
                refine JL_nil ?_
                refine N_then ?_
                refine J_if rfl (fun h64 => ?_) (fun h64 => ?_)
                · refine J_seq ?_
                  refine J_region ?_
                  refine JL_q (wants_none rfl) rfl (ex_assign rfl) ?_
                  refine JL_nil ?_
                  refine N_then ?_
                  refine J_ret ?_
                  refine N_then_ret ?_
                  exact N_ret1 rfl (rv_tmp rfl) (fun w hh => ⟨(), rfl, hh.sel [] rfl⟩)
                · refine J_skip ?_
                  refine N_then ?_
                  refine J_seq ?_
                  refine J_region ?_
                  refine JL_q (wants_none rfl) rfl (ex_assign rfl) ?_
                  refine JL_nil ?_
                  refine N_then ?_
                  refine J_seq ?_
                  refine J_region ?_
                  refine JL_q (wants_none rfl) rfl (ex_load_bx_agg 10 ti_28 rfl rfl rfl rfl) ?_
                  refine JL_q (wants_none rfl) rfl (ex_move rfl) ?_
                  refine JL_bnd fun r65 hr66 => ?_
                  refine JL_call (wants_none rfl) rfl Try.call14 rfl (Ca_of0 fun w hh => c_laws_heldMachine _ w (fun _ hk => hk.elim) _ _ (GMachine.rdmk (Rd.mk_int _ _ _) (Rd.mk_int _ _ _) (hh.rd0 3 rfl)) _ _ hr66) (fun _ => ?_)
                  refine JL_q (wants_none rfl) rfl (ex_assign rfl) ?_
                  refine JL_nil ?_
                  refine N_then ?_
                  refine J_seq ?_
                  refine J_seq ?_
                  refine J_region ?_
                  refine JL_q (wants_none rfl) rfl (ex_move rfl) ?_
                  refine JL_q (wants_none rfl) rfl (ex_lss rfl rfl) ?_
                  refine JL_nil ?_
                  refine N_then ?_
                  refine J_if rfl (fun h67 => ?_) (fun h67 => ?_)
                  · refine J_seq ?_
                    refine J_region ?_
                    refine JL_q (wants_none rfl) rfl (ex_assign rfl) ?_
                    refine JL_nil ?_
                    refine N_then ?_
                    refine J_ret ?_
                    refine N_then_ret ?_
                    exact N_ret1 rfl (rv_tmp rfl) (fun w hh => ⟨(), rfl, hh.sel [] rfl⟩)
                  · refine J_skip ?_
                    refine N_then ?_
                    refine J_seq ?_
                    refine J_seq ?_
                    refine J_region ?_
                    refine JL_q (wants_none rfl) rfl (ex_move rfl) ?_
                    refine JL_q (wants_none rfl) rfl (ex_move rfl) ?_
                    refine JL_q (wants_none rfl) rfl (ex_neq rfl rfl) ?_
                    refine JL_nil ?_
                    refine N_then ?_
                    refine J_if rfl (fun h68 => ?_) (fun h68 => ?_)
                    · refine J_seq ?_
                      refine J_region ?_
                      refine JL_q (wants_none rfl) rfl (ex_assign rfl) ?_
                      refine JL_nil ?_
                      refine N_then ?_
                      refine J_ret ?_
                      refine N_then_ret ?_
                      exact N_ret1 rfl (rv_tmp rfl) (fun w hh => ⟨(), rfl, hh.sel [] rfl⟩)
                    · refine J_skip ?_
                      refine N_then ?_
                      refine J_seq ?_
                      refine J_region ?_
                      refine JL_q (wants_none rfl) rfl (ex_assign rfl) ?_
                      refine JL_nil ?_
                      refine N_then ?_
                      refine J_ret ?_
                      exact N_ret1 rfl (rv_tmp rfl) (fun w hh => ⟨(), rfl, hh.sel [] rfl⟩)

end Go.Proofs.Ytceimgjcikkadaa
