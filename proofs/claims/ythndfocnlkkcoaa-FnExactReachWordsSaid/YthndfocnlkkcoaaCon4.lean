/-
  Each function of the program computes what its plain function says: printed by program. No condition.
-/
import Derived.Test.YthndfocnlkkcoaaFn
import Derived.Test.YthndfocnlkkcoaaInf
import Derived.Test.YthndfocnlkkcoaaCon1
import Derived.Test.YthndfocnlkkcoaaCon2
import Derived.Test.YthndfocnlkkcoaaCon3
namespace Go.Proofs.Ythndfocnlkkcoaa
open Go Go.Tc Go.Fn
set_option linter.unusedVariables false

set_option maxHeartbeats 40000000 in
theorem c_laws_FnExactReachWords (A : Nat → Prop) (w : World) (hA : ∀ k, A k → k < w.heap.size) (v0_ : Value) (p0 : (List GRewrite)) (hp0 : Rd A w v0_ p0) (v1_ : Value) (p1 : (List Int)) (hp1 : Rd A w v1_ p1) (p2 : Int) (r : Bool) (hr : F_laws_FnExactReachWords p0 p1 p2 = some r) :
    Con Try.prog 3 [v0_, v1_, .int .i64 p2] A w (fun x_ : Unit => .bool r) (fun x_ => []) := by
  refine Con_of (v := fun (r : Bool) (x_ : Unit) => .bool r) (fs := fun r x_ => []) Try.func3 rfl Try.ntmps3 rfl (((SH.start hA).start_rd rfl hp0).start_rd rfl hp1) rfl ?_ hr
  unfold F_laws_FnExactReachWords
  refine J_seq ?_
  refine J_region ?_
  refine JL_q (wants_none rfl) rfl (ex_assign rfl) ?_
  refine JL_nil ?_
  refine N_then ?_
  refine J_seq ?_
  refine J_seq ?_
  refine J_region ?_
  refine JL_q (wants_none rfl) rfl (ex_move rfl) ?_
  refine JL_q (wants_none rfl) rfl (ex_len_rd 0 Try.underlying23 rfl rfl) ?_
  refine JL_q (wants_none rfl) rfl (ex_gtr rfl rfl) ?_
  refine JL_nil ?_
  refine N_then ?_
  refine J_if rfl (fun h1 => ?_) (fun h1 => ?_)
  · refine J_seq ?_
    refine J_region ?_
    refine JL_q (wants_none rfl) rfl (ex_assign rfl) ?_
    refine JL_nil ?_
    refine N_then ?_
    refine J_ret ?_
    refine N_then_ret ?_
    exact N_ret1 rfl (rv_tmp rfl) (fun w hh => ⟨(), rfl, hh.sel [] rfl⟩)
  · refine J_skip ?_
    refine N_then ?_
    refine J_seq ?_
    refine J_region ?_
    refine JL_q (wants_none rfl) rfl (ex_assign rfl) ?_
    refine JL_nil ?_
    refine N_then ?_
    refine J_seq ?_
    refine J_region ?_
    refine JL_q (wants_none rfl) rfl (ex_move rfl) ?_
    refine JL_q (wants_none rfl) rfl (ex_move rfl) ?_
    refine JL_bnd fun r2 hr3 => ?_
    refine JL_call (wants_none rfl) rfl Try.call5 rfl (Ca_of0 fun w hh => c_laws_szRewriteS _ w (fun _ hk => hk.elim) _ _ (hh.rd0 1 rfl) _ _ hr3) (fun _ => ?_)
    refine JL_q (wants_none rfl) rfl (ex_assign rfl) ?_
    refine JL_nil ?_
    refine N_then ?_
    refine J_seq ?_
    refine J_seq ?_
    refine J_region ?_
    refine JL_q (wants_none rfl) rfl (ex_move rfl) ?_
    refine JL_q (wants_none rfl) rfl (ex_lss rfl rfl) ?_
    refine JL_nil ?_
    refine N_then ?_
    refine J_if rfl (fun h4 => ?_) (fun h4 => ?_)
    · refine J_seq ?_
      refine J_region ?_
      refine JL_q (wants_none rfl) rfl (ex_assign rfl) ?_
      refine JL_nil ?_
      refine N_then ?_
      refine J_ret ?_
      refine N_then_ret ?_
      exact N_ret1 rfl (rv_tmp rfl) (fun w hh => ⟨(), rfl, hh.sel [] rfl⟩)
    · refine J_skip ?_
      refine N_then ?_
      refine J_seq ?_
      refine J_region ?_
      refine JL_q (wants_none rfl) rfl (ex_move rfl) ?_
      refine JL_bnd fun r5 hr6 => ?_
      refine JL_call (wants_none rfl) rfl Try.call7 rfl (Ca_self (fun _ => rfl) fun w hh => c_laws_toRewriteS _ w (fun _ hk => hk.elim) _ _ (hh.rd0 1 rfl) _ hr6) (fun x7 => ?_)
      obtain ⟨x7_0, x7_1⟩ := x7
      refine JL_q (wants_none rfl) rfl (ex_move rfl) ?_
      refine JL_bnd fun r8 hr9 => ?_
      refine JL_call (wants_none rfl) rfl Try.call8 rfl (Ca_self (fun _ => rfl) fun w hh => c_laws_toInt64S _ w (fun _ hk => hk.elim) _ _ (hh.rd0 1 rfl) _ hr9) (fun x10 => ?_)
      refine JL_q (wants_none rfl) rfl (ex_move rfl) ?_
      refine JL_bnd fun r11 hr12 => ?_
      refine JL_call (wants_none rfl) rfl Try.call6 rfl (Ca_self (fun _ => rfl) fun w hh => c_spec_ReachWords _ w (fun _ hk => hk.elim) _ _ (hh.od0 1 rfl) _ _ (hh.ow0 0 rfl) _ _ hr12) (fun x13 => ?_)
      obtain ⟨x13_0, x13_1⟩ := x13
      refine JL_q (wants_none rfl) rfl (ex_move rfl) ?_
      refine JL_q (wants_none rfl) rfl (ex_extract rfl rfl) ?_
      refine JL_q (wants_none rfl) rfl (ex_extract rfl rfl) ?_
      refine JL_q (wants_none rfl) rfl (ex_extract rfl rfl) ?_
      refine JL_q (wants_none rfl) rfl (ex_assign rfl) ?_
      refine JL_q (wants_none rfl) rfl (ex_assign rfl) ?_
      refine JL_q (wants_none rfl) rfl (ex_assign rfl) ?_
      refine JL_nil ?_
      refine N_then ?_
      refine J_seq ?_
      refine J_region ?_
      refine JL_q (wants_none rfl) rfl (ex_move rfl) ?_
      refine JL_bnd fun r14 hr15 => ?_
      refine JL_call (wants_none rfl) rfl Try.call7 rfl (Ca_self (fun _ => rfl) fun w hh => c_laws_toRewriteS _ w (fun _ hk => hk.elim) _ _ (hh.rd0 4 rfl) _ hr15) (fun x16 => ?_)
      obtain ⟨x16_0, x16_1⟩ := x16
      refine JL_q (wants_none rfl) rfl (ex_assign rfl) ?_
      refine JL_nil ?_
      refine N_then ?_
      refine J_seq ?_
      refine J_region ?_
      refine JL_q (wants_none rfl) rfl (ex_move rfl) ?_
      refine JL_bnd fun r17 hr18 => ?_
      refine JL_call (wants_none rfl) rfl Try.call8 rfl (Ca_self (fun _ => rfl) fun w hh => c_laws_toInt64S _ w (fun _ hk => hk.elim) _ _ (hh.rd0 4 rfl) _ hr18) (fun x19 => ?_)
      refine JL_q (wants_none rfl) rfl (ex_assign rfl) ?_
      refine JL_nil ?_
      refine N_then ?_
      refine J_seq ?_
      refine J_region ?_
      refine JL_q (wants_none rfl) rfl (ex_move rfl) ?_
      refine JL_q (wants_none rfl) rfl (ex_move rfl) ?_
      refine JL_q (wants_none rfl) rfl (ex_move rfl) ?_
      refine JL_bnd fun r20 hr21 => ?_
      refine JL_call (wants_none rfl) rfl Try.call9 rfl (Ca_self (fun _ => rfl) fun w hh => c_impl_ReachWords _ w (fun _ hk => hk.elim) _ _ (hh.od0 1 rfl) _ _ (hh.ow0 0 rfl) _ _ hr21) (fun x22 => ?_)
      obtain ⟨x22_0, x22_1⟩ := x22
      refine JL_q (wants_none rfl) rfl (ex_move rfl) ?_
      refine JL_q (wants_none rfl) rfl (ex_extract rfl rfl) ?_
      refine JL_q (wants_none rfl) rfl (ex_extract rfl rfl) ?_
      refine JL_q (wants_none rfl) rfl (ex_extract rfl rfl) ?_
      refine JL_q (wants_none rfl) rfl (ex_assign rfl) ?_
      refine JL_q (wants_none rfl) rfl (ex_assign rfl) ?_
      refine JL_q (wants_none rfl) rfl (ex_assign rfl) ?_
      refine JL_nil ?_
      refine N_then ?_
      refine J_seq ?_
      refine J_cut' (S' := Unit) (G' := Unit) (fun _ _ => [(0, v0_), (1, v1_), (2, .int .i64 p2), (8, x13_0), (9, .bool r11.2.1), (10, .int .i64 r11.2.2), (11, x16_0), (12, x19), (13, x22_0), (14, .bool r20.2.1), (15, .int .i64 r20.2.2)]) (fun _ _ => [.rd v0_ p0, .rd v1_ p1, .od 23 x13_0 r11.1 x13_1, .od 48 x16_0 r14 x16_1, .ow 2 x19 r17, .od 23 x22_0 r20.1 x22_1]) ?_ (fun s23 g24 => ?_)
      · refine J_seq ?_
        refine J_region ?_
        refine JL_q (wants_none rfl) rfl (ex_move rfl) ?_
        refine JL_q (wants_none rfl) rfl (ex_move rfl) ?_
        refine JL_bnd fun r25 hr26 => ?_
        refine JL_call (wants_none rfl) rfl Try.call10 rfl (Ca_of0 fun w hh => c_laws_eqInt64SS _ w (fun _ hk => hk.elim) _ _ (hh.od0 0 rfl) _ _ (hh.od0 3 rfl) _ hr26) (fun _ => ?_)
        refine JL_q (wants_none rfl) rfl (ex_not rfl) ?_
        refine JL_q (wants_none rfl) rfl (ex_move rfl) ?_
        refine JL_cond (fun h27 => ?_) (fun h27 => ?_)
        · refine JL_passed rfl rfl rfl h27 ?_
          refine JL_passed rfl rfl rfl h27 ?_
          refine JL_passed rfl rfl rfl h27 ?_
          refine JL_q (wants_none rfl) rfl (ex_pick_true rfl h27 rfl) ?_
          refine JL_q (wants_none rfl) rfl (ex_move rfl) ?_
          refine JL_passed rfl rfl rfl rfl ?_
          refine JL_passed rfl rfl rfl rfl ?_
          refine JL_passed rfl rfl rfl rfl ?_
          refine JL_q (wants_none rfl) rfl (ex_pick_true rfl rfl rfl) ?_
          refine JL_nil ?_
          refine N_then ?_
          refine J_if_true rfl rfl ?_
          refine J_seq ?_
          refine J_region ?_
          refine JL_q (wants_none rfl) rfl (ex_assign rfl) ?_
          refine JL_nil ?_
          refine N_then ?_
          refine J_ret ?_
          refine N_mid_ret ?_
          refine N_then_ret ?_
          exact N_ret1 rfl (rv_tmp rfl) (fun w hh => ⟨(), rfl, hh.sel [] rfl⟩)
        · refine JL_q (wants_some rfl rfl rfl h27) rfl (ex_move rfl) ?_
          refine JL_q (wants_some rfl rfl rfl h27) rfl (ex_move rfl) ?_
          refine JL_q (wants_some rfl rfl rfl h27) rfl (ex_neq_bool Try.underlying4 rfl rfl) ?_
          refine JL_q (wants_none rfl) rfl (ex_pick_false rfl h27 rfl) ?_
          refine JL_q (wants_none rfl) rfl (ex_move rfl) ?_
          refine JL_cond (fun h28 => ?_) (fun h28 => ?_)
          · refine JL_passed rfl rfl rfl h28 ?_
            refine JL_passed rfl rfl rfl h28 ?_
            refine JL_passed rfl rfl rfl h28 ?_
            refine JL_q (wants_none rfl) rfl (ex_pick_true rfl h28 rfl) ?_
            refine JL_nil ?_
            refine N_then ?_
            refine J_if_true rfl rfl ?_
            refine J_seq ?_
            refine J_region ?_
            refine JL_q (wants_none rfl) rfl (ex_assign rfl) ?_
            refine JL_nil ?_
            refine N_then ?_
            refine J_ret ?_
            refine N_mid_ret ?_
            refine N_then_ret ?_
            exact N_ret1 rfl (rv_tmp rfl) (fun w hh => ⟨(), rfl, hh.sel [] rfl⟩)
          · refine JL_q (wants_some rfl rfl rfl h28) rfl (ex_move rfl) ?_
            refine JL_q (wants_some rfl rfl rfl h28) rfl (ex_move rfl) ?_
            refine JL_q (wants_some rfl rfl rfl h28) rfl (ex_neq rfl rfl) ?_
            refine JL_q (wants_none rfl) rfl (ex_pick_false rfl h28 rfl) ?_
            refine JL_nil ?_
            refine N_then ?_
            refine J_if rfl (fun h29 => ?_) (fun h29 => ?_)
            · refine J_seq ?_
              refine J_region ?_
              refine JL_q (wants_none rfl) rfl (ex_assign rfl) ?_
              refine JL_nil ?_
              refine N_then ?_
              refine J_ret ?_
              refine N_mid_ret ?_
              refine N_then_ret ?_
              exact N_ret1 rfl (rv_tmp rfl) (fun w hh => ⟨(), rfl, hh.sel [] rfl⟩)
            · refine J_skip ?_
              exact N_meet' () ⟨rfl, rfl, rfl, rfl, rfl, rfl, rfl, rfl, rfl, rfl, rfl, trivial⟩ [7, 6, 3, 2, 1, 0] rfl rfl
      · refine N_then ?_
        refine J_seq ?_
        refine J_seq ?_
        refine J_region ?_
        refine JL_q (wants_none rfl) rfl (ex_move rfl) ?_
        refine JL_q (wants_none rfl) rfl (ex_move rfl) ?_
        refine JL_bnd fun r30 hr31 => ?_
        refine JL_call (wants_none rfl) rfl Try.call7 rfl (Ca_self (fun _ => rfl) fun w hh => c_laws_toRewriteS _ w (fun _ hk => hk.elim) _ _ (hh.rd0 0 rfl) _ hr31) (fun x32 => ?_)
        obtain ⟨x32_0, x32_1⟩ := x32
        refine JL_bnd fun r33 hr34 => ?_
        refine JL_call (wants_none rfl) rfl Try.call11 rfl (Ca_of0 fun w hh => c_laws_eqRewriteS _ w (fun _ hk => hk.elim) _ _ (hh.od0 4 rfl) _ _ (hh.od0 0 rfl) _ hr34) (fun _ => ?_)
        refine JL_q (wants_none rfl) rfl (ex_not rfl) ?_
        refine JL_nil ?_
        refine N_then ?_
        refine J_if rfl (fun h35 => ?_) (fun h35 => ?_)
        · refine J_seq ?_
          refine J_region ?_
          refine JL_q (wants_none rfl) rfl (ex_assign rfl) ?_
          refine JL_nil ?_
          refine N_then ?_
          refine J_ret ?_
          refine N_then_ret ?_
          exact N_ret1 rfl (rv_tmp rfl) (fun w hh => ⟨(), rfl, hh.sel [] rfl⟩)
        · refine J_skip ?_
          refine N_then ?_
          refine J_seq ?_
          refine J_seq ?_
          refine J_region ?_
          refine JL_q (wants_none rfl) rfl (ex_move rfl) ?_
          refine JL_q (wants_none rfl) rfl (ex_move rfl) ?_
          refine JL_bnd fun r36 hr37 => ?_
          refine JL_call (wants_none rfl) rfl Try.call8 rfl (Ca_self (fun _ => rfl) fun w hh => c_laws_toInt64S _ w (fun _ hk => hk.elim) _ _ (hh.rd0 2 rfl) _ hr37) (fun x38 => ?_)
          refine JL_bnd fun r39 hr40 => ?_
          refine JL_call (wants_none rfl) rfl Try.call12 rfl (Ca_of0 fun w hh => c_laws_eqInt64S _ w (fun _ hk => hk.elim) _ _ (hh.ow0 6 rfl) _ _ (hh.ow0 0 rfl) _ hr40) (fun _ => ?_)
          refine JL_q (wants_none rfl) rfl (ex_not rfl) ?_
          refine JL_nil ?_
          refine N_then ?_
          refine J_if rfl (fun h41 => ?_) (fun h41 => ?_)
          · refine J_seq ?_
            refine J_region ?_
            refine JL_q (wants_none rfl) rfl (ex_assign rfl) ?_
            refine JL_nil ?_
            refine N_then ?_
            refine J_ret ?_
            refine N_then_ret ?_
            exact N_ret1 rfl (rv_tmp rfl) (fun w hh => ⟨(), rfl, hh.sel [] rfl⟩)
          · refine J_skip ?_
            refine N_then ?_
            refine J_seq ?_
            refine J_region ?_
            refine JL_q (wants_none rfl) rfl (ex_assign rfl) ?_
            refine JL_nil ?_
            refine N_then ?_
            refine J_seq ?_
            refine J_region ?_
            refine JL_q (wants_none rfl) rfl (ex_move rfl) ?_
            refine JL_q (wants_none rfl) rfl (ex_move rfl) ?_
            refine JL_bnd fun r42 hr43 => ?_
            refine JL_ctx (fun w hh => hh.tok 5 rfl) ?_
            refine JL_mark 0 [1, 2, 5, 7, 8] mk_laws_markRewriteS (wants_none rfl) rfl Try.call13 rfl rfl rfl rfl (((SH.start hA).start_rd rfl hp0).start_rd rfl hp1) rfl hr43 ?_
            refine JL_q (wants_none rfl) rfl (ex_assign rfl) ?_
            refine JL_nil ?_
            refine N_then ?_
            refine J_seq ?_
            refine J_region ?_
            refine JL_q (wants_none rfl) rfl (ex_move rfl) ?_
            refine JL_q (wants_none rfl) rfl (ex_move rfl) ?_
            refine JL_bnd fun r44 hr45 => ?_
            refine JL_ctx (fun w hh => hh.tokf 7 rfl rfl) ?_
            refine JL_mark 0 [2, 5, 6, 7, 9] mk_laws_markInt64S (wants_none rfl) rfl Try.call14 rfl rfl rfl rfl (((SH.start hA).start_rd rfl hp0).start_rd rfl hp1) rfl hr45 ?_
            refine JL_ctx (fun w hh => hh.tkn_rd 4 rfl) ?_
            refine JL_q (wants_none rfl) rfl (ex_assign rfl) ?_
            refine JL_nil ?_
            refine N_then ?_
            refine J_seq ?_
            refine J_cut' (S' := Unit) (G' := Unit) (fun _ _ => [(0, v0_), (1, v1_), (2, .int .i64 p2), (8, x13_0), (9, .bool r11.2.1), (10, .int .i64 r11.2.2), (13, x22_0)]) (fun _ _ => [.rd v0_ p0, .rd v1_ p1, .od 23 x13_0 r11.1 x13_1, .od 23 x22_0 r20.1 x22_1]) ?_ (fun s46 g47 => ?_)
            · refine J_seq ?_
              refine J_region ?_
              refine JL_q (wants_none rfl) rfl (ex_move rfl) ?_
              refine JL_q (wants_none rfl) rfl (ex_lss rfl rfl) ?_
              refine JL_q (wants_none rfl) rfl (ex_move rfl) ?_
              refine JL_cond (fun h48 => ?_) (fun h48 => ?_)
              · refine JL_passed rfl rfl rfl h48 ?_
                refine JL_passed rfl rfl rfl h48 ?_
                refine JL_passed rfl rfl rfl h48 ?_
                refine JL_passed rfl rfl rfl h48 ?_
                refine JL_q (wants_none rfl) rfl (ex_pick_true rfl h48 rfl) ?_
                refine JL_q (wants_none rfl) rfl (ex_move rfl) ?_
                refine JL_passed rfl rfl rfl rfl ?_
                refine JL_passed rfl rfl rfl rfl ?_
                refine JL_passed rfl rfl rfl rfl ?_
                refine JL_q (wants_none rfl) rfl (ex_pick_true rfl rfl rfl) ?_
                refine JL_q (wants_none rfl) rfl (ex_move rfl) ?_
                refine JL_passed rfl rfl rfl rfl ?_
                refine JL_passed rfl rfl rfl rfl ?_
                refine JL_passed rfl rfl rfl rfl ?_
                refine JL_q (wants_none rfl) rfl (ex_pick_true rfl rfl rfl) ?_
                refine JL_nil ?_
                refine N_then ?_
                refine J_if_true rfl rfl ?_
                refine J_seq ?_
                refine J_region ?_
                refine JL_q (wants_none rfl) rfl (ex_assign rfl) ?_
                refine JL_nil ?_
                refine N_then ?_
                refine J_ret ?_
                refine N_mid_ret ?_
                refine N_then_ret ?_
                exact N_ret1 rfl (rv_tmp rfl) (fun w hh => ⟨(), rfl, hh.sel [] rfl⟩)
              · refine JL_q (wants_some rfl rfl rfl h48) rfl (ex_move rfl) ?_
                refine JL_q (wants_some rfl rfl rfl h48) rfl (ex_move rfl) ?_
                refine JL_bnd fun r49 hr50 => ?_
                refine JL_call (wants_some rfl rfl rfl h48) rfl Try.call10 rfl (Ca_of0 fun w hh => c_laws_eqInt64SS _ w (fun _ hk => hk.elim) _ _ (hh.od0 9 rfl) _ _ (hh.od0 8 rfl) _ hr50) (fun _ => ?_)
                refine JL_q (wants_some rfl rfl rfl h48) rfl (ex_not rfl) ?_
                refine JL_q (wants_none rfl) rfl (ex_pick_false rfl h48 rfl) ?_
                refine JL_q (wants_none rfl) rfl (ex_move rfl) ?_
                refine JL_cond (fun h51 => ?_) (fun h51 => ?_)
                · refine JL_passed rfl rfl rfl h51 ?_
                  refine JL_passed rfl rfl rfl h51 ?_
                  refine JL_passed rfl rfl rfl h51 ?_
                  refine JL_q (wants_none rfl) rfl (ex_pick_true rfl h51 rfl) ?_
                  refine JL_q (wants_none rfl) rfl (ex_move rfl) ?_
                  refine JL_passed rfl rfl rfl rfl ?_
                  refine JL_passed rfl rfl rfl rfl ?_
                  refine JL_passed rfl rfl rfl rfl ?_
                  refine JL_q (wants_none rfl) rfl (ex_pick_true rfl rfl rfl) ?_
                  refine JL_nil ?_
                  refine N_then ?_
                  refine J_if_true rfl rfl ?_
                  refine J_seq ?_
                  refine J_region ?_
                  refine JL_q (wants_none rfl) rfl (ex_assign rfl) ?_
                  refine JL_nil ?_
                  refine N_then ?_
                  refine J_ret ?_
                  refine N_mid_ret ?_
                  refine N_then_ret ?_
                  exact N_ret1 rfl (rv_tmp rfl) (fun w hh => ⟨(), rfl, hh.sel [] rfl⟩)
                · refine JL_q (wants_some rfl rfl rfl h51) rfl (ex_move rfl) ?_
                  refine JL_q (wants_some rfl rfl rfl h51) rfl (ex_move rfl) ?_
                  refine JL_q (wants_some rfl rfl rfl h51) rfl (ex_neq_bool Try.underlying4 rfl rfl) ?_
                  refine JL_q (wants_none rfl) rfl (ex_pick_false rfl h51 rfl) ?_
                  refine JL_q (wants_none rfl) rfl (ex_move rfl) ?_
                  refine JL_cond (fun h52 => ?_) (fun h52 => ?_)
                  · refine JL_passed rfl rfl rfl h52 ?_
                    refine JL_passed rfl rfl rfl h52 ?_
                    refine JL_passed rfl rfl rfl h52 ?_
                    refine JL_q (wants_none rfl) rfl (ex_pick_true rfl h52 rfl) ?_
                    refine JL_nil ?_
                    refine N_then ?_
                    refine J_if_true rfl rfl ?_
                    refine J_seq ?_
                    refine J_region ?_
                    refine JL_q (wants_none rfl) rfl (ex_assign rfl) ?_
                    refine JL_nil ?_
                    refine N_then ?_
                    refine J_ret ?_
                    refine N_mid_ret ?_
                    refine N_then_ret ?_
                    exact N_ret1 rfl (rv_tmp rfl) (fun w hh => ⟨(), rfl, hh.sel [] rfl⟩)
                  · refine JL_q (wants_some rfl rfl rfl h52) rfl (ex_move rfl) ?_
                    refine JL_q (wants_some rfl rfl rfl h52) rfl (ex_move rfl) ?_
                    refine JL_q (wants_some rfl rfl rfl h52) rfl (ex_neq rfl rfl) ?_
                    refine JL_q (wants_none rfl) rfl (ex_pick_false rfl h52 rfl) ?_
                    refine JL_nil ?_
                    refine N_then ?_
                    refine J_if rfl (fun h53 => ?_) (fun h53 => ?_)
                    · refine J_seq ?_
                      refine J_region ?_
                      refine JL_q (wants_none rfl) rfl (ex_assign rfl) ?_
                      refine JL_nil ?_
                      refine N_then ?_
                      refine J_ret ?_
                      refine N_mid_ret ?_
                      refine N_then_ret ?_
                      exact N_ret1 rfl (rv_tmp rfl) (fun w hh => ⟨(), rfl, hh.sel [] rfl⟩)
                    · refine J_skip ?_
                      exact N_meet' () ⟨rfl, rfl, rfl, rfl, rfl, rfl, rfl, trivial⟩ [4, 3, 8, 9] rfl rfl
            · refine N_then ?_
              refine J_seq ?_
              refine J_region ?_
              refine JL_q (wants_none rfl) rfl (ex_assign rfl) ?_
              refine JL_nil ?_
              refine N_then ?_
              refine J_seq ?_
              refine J_region ?_
              refine JL_q (wants_none rfl) rfl (ex_move rfl) ?_
              refine JL_q (wants_none rfl) rfl (ex_move rfl) ?_
              refine JL_bnd fun r54 hr55 => ?_
              refine JL_ctx (fun w hh => hh.tok 3 rfl) ?_
              refine JL_mark 0 [3] mk_laws_markInt64SS (wants_none rfl) rfl Try.call15 rfl rfl rfl rfl (((SH.start hA).start_rd rfl hp0).start_rd rfl hp1) rfl hr55 ?_
              refine JL_q (wants_none rfl) rfl (ex_assign rfl) ?_
              refine JL_nil ?_
              refine N_then ?_
              refine J_seq ?_
              refine J_region ?_
              refine JL_q (wants_none rfl) rfl (ex_assign rfl) ?_
              refine JL_nil ?_
              refine N_then ?_
              refine J_seq ?_
              refine J_region ?_
              refine JL_q (wants_none rfl) rfl (ex_move rfl) ?_
              refine JL_q (wants_none rfl) rfl (ex_move rfl) ?_
              refine JL_bnd fun r56 hr57 => ?_
              refine JL_call (wants_none rfl) rfl Try.call16 rfl (Ca_of0 fun w hh => c_laws_heldInt64SS _ w (fun _ hk => hk.elim) _ _ (hh.rd0 0 rfl) _ _ hr57) (fun _ => ?_)
              refine JL_q (wants_none rfl) rfl (ex_assign rfl) ?_
              refine JL_nil ?_
              refine N_then ?_
              refine J_seq ?_
              refine J_seq ?_
              refine J_region ?_
              refine JL_q (wants_none rfl) rfl (ex_move rfl) ?_
              refine JL_q (wants_none rfl) rfl (ex_lss rfl rfl) ?_
              refine JL_nil ?_
              refine N_then ?_
              refine J_if rfl (fun h58 => ?_) (fun h58 => ?_)
              · refine J_seq ?_
                refine J_region ?_
                refine JL_q (wants_none rfl) rfl (ex_assign rfl) ?_
                refine JL_nil ?_
                refine N_then ?_
                refine J_ret ?_
                refine N_then_ret ?_
                exact N_ret1 rfl (rv_tmp rfl) (fun w hh => ⟨(), rfl, hh.sel [] rfl⟩)
              · refine J_skip ?_
                refine N_then ?_
                refine J_seq ?_
                refine J_seq ?_
                refine J_region ?_
                refine JL_q (wants_none rfl) rfl (ex_move rfl) ?_
                refine JL_q (wants_none rfl) rfl (ex_move rfl) ?_
                refine JL_q (wants_none rfl) rfl (ex_neq rfl rfl) ?_
                refine JL_nil ?_
                refine N_then ?_
                refine J_if rfl (fun h59 => ?_) (fun h59 => ?_)
                · refine J_seq ?_
                  refine J_region ?_
                  refine JL_q (wants_none rfl) rfl (ex_assign rfl) ?_
                  refine JL_nil ?_
                  refine N_then ?_
                  refine J_ret ?_
                  refine N_then_ret ?_
                  exact N_ret1 rfl (rv_tmp rfl) (fun w hh => ⟨(), rfl, hh.sel [] rfl⟩)
                · refine J_skip ?_
                  refine N_then ?_
                  refine J_seq ?_
                  refine J_region ?_
                  refine JL_q (wants_none rfl) rfl (ex_move rfl) ?_
                  refine JL_bnd fun r60 hr61 => ?_
                  refine JL_call (wants_none rfl) rfl Try.call7 rfl (Ca_self (fun _ => rfl) fun w hh => c_laws_toRewriteS _ w (fun _ hk => hk.elim) _ _ (hh.rd0 3 rfl) _ hr61) (fun x62 => ?_)
                  obtain ⟨x62_0, x62_1⟩ := x62
                  refine JL_q (wants_none rfl) rfl (ex_move rfl) ?_
                  refine JL_bnd fun r63 hr64 => ?_
                  refine JL_call (wants_none rfl) rfl Try.call8 rfl (Ca_self (fun _ => rfl) fun w hh => c_laws_toInt64S _ w (fun _ hk => hk.elim) _ _ (hh.rd0 3 rfl) _ hr64) (fun x65 => ?_)
                  refine JL_q (wants_none rfl) rfl (ex_move rfl) ?_
                  refine JL_bnd fun r66 hr67 => ?_
                  refine JL_call (wants_none rfl) rfl Try.call9 rfl (Ca_self (fun _ => rfl) fun w hh => c_impl_ReachWords _ w (fun _ hk => hk.elim) _ _ (hh.od0 1 rfl) _ _ (hh.ow0 0 rfl) _ _ hr67) (fun x68 => ?_)
                  obtain ⟨x68_0, x68_1⟩ := x68
                  refine JL_q (wants_none rfl) rfl (ex_move rfl) ?_
                  refine JL_q (wants_none rfl) rfl (ex_extract rfl rfl) ?_
                  refine JL_q (wants_none rfl) rfl (ex_extract rfl rfl) ?_
                  refine JL_q (wants_none rfl) rfl (ex_extract rfl rfl) ?_
                  refine JL_q (wants_none rfl) rfl (ex_assign rfl) ?_
                  refine JL_q (wants_none rfl) rfl (ex_assign rfl) ?_
                  refine JL_q (wants_none rfl) rfl (ex_assign rfl) ?_
                  refine JL_nil ?_
                  refine N_then ?_
                  refine J_seq ?_
                  refine J_seq ?_
                  refine J_region ?_
                  refine JL_q (wants_none rfl) rfl (ex_move rfl) ?_
                  refine JL_q (wants_none rfl) rfl (ex_move rfl) ?_
                  refine JL_bnd fun r69 hr70 => ?_
                  refine JL_call (wants_none rfl) rfl Try.call10 rfl (Ca_of0 fun w hh => c_laws_eqInt64SS _ w (fun _ hk => hk.elim) _ _ (hh.od0 0 rfl) _ _ (hh.od0 7 rfl) _ hr70) (fun _ => ?_)
                  refine JL_q (wants_none rfl) rfl (ex_not rfl) ?_
                  refine JL_q (wants_none rfl) rfl (ex_move rfl) ?_
                  refine JL_cond (fun h71 => ?_) (fun h71 => ?_)
                  · refine JL_passed rfl rfl rfl h71 ?_
                    refine JL_passed rfl rfl rfl h71 ?_
                    refine JL_passed rfl rfl rfl h71 ?_
                    refine JL_q (wants_none rfl) rfl (ex_pick_true rfl h71 rfl) ?_
                    refine JL_q (wants_none rfl) rfl (ex_move rfl) ?_
                    refine JL_passed rfl rfl rfl rfl ?_
                    refine JL_passed rfl rfl rfl rfl ?_
                    refine JL_passed rfl rfl rfl rfl ?_
                    refine JL_q (wants_none rfl) rfl (ex_pick_true rfl rfl rfl) ?_
                    refine JL_nil ?_
                    refine N_then ?_
                    refine J_if_true rfl rfl ?_
                    refine J_seq ?_
                    refine J_region ?_
                    refine JL_q (wants_none rfl) rfl (ex_assign rfl) ?_
                    refine JL_nil ?_
                    refine N_then ?_
                    refine J_ret ?_
                    refine N_then_ret ?_
                    exact N_ret1 rfl (rv_tmp rfl) (fun w hh => ⟨(), rfl, hh.sel [] rfl⟩)
                  · refine JL_q (wants_some rfl rfl rfl h71) rfl (ex_move rfl) ?_
                    refine JL_q (wants_some rfl rfl rfl h71) rfl (ex_move rfl) ?_
                    refine JL_q (wants_some rfl rfl rfl h71) rfl (ex_neq_bool Try.underlying4 rfl rfl) ?_
                    refine JL_q (wants_none rfl) rfl (ex_pick_false rfl h71 rfl) ?_
                    refine JL_q (wants_none rfl) rfl (ex_move rfl) ?_
                    refine JL_cond (fun h72 => ?_) (fun h72 => ?_)
                    · refine JL_passed rfl rfl rfl h72 ?_
                      refine JL_passed rfl rfl rfl h72 ?_
                      refine JL_passed rfl rfl rfl h72 ?_
                      refine JL_q (wants_none rfl) rfl (ex_pick_true rfl h72 rfl) ?_
                      refine JL_nil ?_
                      refine N_then ?_
                      refine J_if_true rfl rfl ?_
                      refine J_seq ?_
                      refine J_region ?_
                      refine JL_q (wants_none rfl) rfl (ex_assign rfl) ?_
                      refine JL_nil ?_
                      refine N_then ?_
                      refine J_ret ?_
                      refine N_then_ret ?_
                      exact N_ret1 rfl (rv_tmp rfl) (fun w hh => ⟨(), rfl, hh.sel [] rfl⟩)
                    · refine JL_q (wants_some rfl rfl rfl h72) rfl (ex_move rfl) ?_
                      refine JL_q (wants_some rfl rfl rfl h72) rfl (ex_move rfl) ?_
                      refine JL_q (wants_some rfl rfl rfl h72) rfl (ex_neq rfl rfl) ?_
                      refine JL_q (wants_none rfl) rfl (ex_pick_false rfl h72 rfl) ?_
                      refine JL_nil ?_
                      refine N_then ?_
                      refine J_if rfl (fun h73 => ?_) (fun h73 => ?_)
                      · refine J_seq ?_
                        refine J_region ?_
                        refine JL_q (wants_none rfl) rfl (ex_assign rfl) ?_
                        refine JL_nil ?_
                        refine N_then ?_
                        refine J_ret ?_
                        refine N_then_ret ?_
                        exact N_ret1 rfl (rv_tmp rfl) (fun w hh => ⟨(), rfl, hh.sel [] rfl⟩)
                      · refine J_skip ?_
                        refine N_then ?_
                        refine J_seq ?_
                        refine J_region ?_
                        refine JL_q (wants_none rfl) rfl (ex_assign rfl) ?_
                        refine JL_nil ?_
                        refine N_then ?_
                        refine J_seq ?_
                        refine J_region ?_
                        refine JL_q (wants_none rfl) rfl (ex_move rfl) ?_
                        refine JL_q (wants_none rfl) rfl (ex_move rfl) ?_
                        refine JL_bnd fun r74 hr75 => ?_
                        refine JL_call (wants_none rfl) rfl Try.call16 rfl (Ca_of0 fun w hh => c_laws_heldInt64SS _ w (fun _ hk => hk.elim) _ _ (hh.rd0 3 rfl) _ _ hr75) (fun _ => ?_)
                        refine JL_q (wants_none rfl) rfl (ex_assign rfl) ?_
                        refine JL_nil ?_
                        refine N_then ?_
                        refine J_seq ?_
                        refine J_seq ?_
                        refine J_region ?_
                        refine JL_q (wants_none rfl) rfl (ex_move rfl) ?_
                        refine JL_q (wants_none rfl) rfl (ex_lss rfl rfl) ?_
                        refine JL_nil ?_
                        refine N_then ?_
                        refine J_if rfl (fun h76 => ?_) (fun h76 => ?_)
                        · refine J_seq ?_
                          refine J_region ?_
                          refine JL_q (wants_none rfl) rfl (ex_assign rfl) ?_
                          refine JL_nil ?_
                          refine N_then ?_
                          refine J_ret ?_
                          refine N_then_ret ?_
                          exact N_ret1 rfl (rv_tmp rfl) (fun w hh => ⟨(), rfl, hh.sel [] rfl⟩)
                        · refine J_skip ?_
                          refine N_then ?_
                          refine J_seq ?_
                          refine J_seq ?_
                          refine J_region ?_
                          refine JL_q (wants_none rfl) rfl (ex_move rfl) ?_
                          refine JL_q (wants_none rfl) rfl (ex_move rfl) ?_
                          refine JL_q (wants_none rfl) rfl (ex_neq rfl rfl) ?_
                          refine JL_nil ?_
                          refine N_then ?_
                          refine J_if rfl (fun h77 => ?_) (fun h77 => ?_)
                          · refine J_seq ?_
                            refine J_region ?_
                            refine JL_q (wants_none rfl) rfl (ex_assign rfl) ?_
                            refine JL_nil ?_
                            refine N_then ?_
                            refine J_ret ?_
                            refine N_then_ret ?_
                            exact N_ret1 rfl (rv_tmp rfl) (fun w hh => ⟨(), rfl, hh.sel [] rfl⟩)
                          · refine J_skip ?_
                            refine N_then ?_
                            refine J_seq ?_
                            refine J_region ?_
                            refine JL_q (wants_none rfl) rfl (ex_assign rfl) ?_
                            refine JL_nil ?_
                            refine N_then ?_
                            refine J_ret ?_
                            exact N_ret1 rfl (rv_tmp rfl) (fun w hh => ⟨(), rfl, hh.sel [] rfl⟩)

end Go.Proofs.Ythndfocnlkkcoaa
