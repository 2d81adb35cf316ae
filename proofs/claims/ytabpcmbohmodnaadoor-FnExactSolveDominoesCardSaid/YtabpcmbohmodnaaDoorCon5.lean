/-
  Each function of the program computes what its plain function says: printed by program. No condition.
-/
import Derived.Test.YtabpcmbohmodnaaDoorFn
import Derived.Test.YtabpcmbohmodnaaDoorInf
import Derived.Test.YtabpcmbohmodnaaDoorCon1
import Derived.Test.YtabpcmbohmodnaaDoorCon3
import Derived.Test.YtabpcmbohmodnaaDoorCon4
namespace Go.Proofs.YtabpcmbohmodnaaDoor
open Go Go.Tc Go.Fn
set_option linter.unusedVariables false

set_option maxHeartbeats 40000000 in
theorem c_laws_FnExactSolveDominoes (A : Nat → Prop) (w : World) (hA : ∀ k, A k → k < w.heap.size) (hT_ : Stn 100 0 1 Tryd.prog w) (v0_ : Value) (p0 : (List GDomino)) (hp0 : Rd A w v0_ p0) (p1 : Int) (p2 : Int) (r : Bool) (hr : F_laws_FnExactSolveDominoes p0 p1 p2 = some r) :
    Con Tryd.prog 3 [v0_, .int .i64 p1, .int .i64 p2] A w (fun x_ : Unit => .bool r) (fun x_ => []) := by
  have hT2_ := hT_
  obtain ⟨ea0_, ea1_, hS_⟩ := hT2_
  refine Con_of (v := fun (r : Bool) (x_ : Unit) => .bool r) (fs := fun r x_ => []) Tryd.func3 rfl Tryd.ntmps3 rfl ((SH.start hA).start_rd rfl hp0) rfl ?_ hr
  unfold F_laws_FnExactSolveDominoes
  refine J_seq ?_
  refine J_region ?_
  refine JL_q (wants_none rfl) rfl (ex_assign rfl) ?_
  refine JL_nil ?_
  refine N_then ?_
  refine J_seq ?_
  refine J_region ?_
  refine JL_q (wants_none rfl) rfl (ex_assign rfl) ?_
  refine JL_nil ?_
  refine N_then ?_
  refine J_seq ?_
  refine J_region ?_
  refine JL_q (wants_none rfl) rfl (ex_move rfl) ?_
  refine JL_q (wants_none rfl) rfl (ex_move rfl) ?_
  refine JL_bnd fun r1 hr2 => ?_
  refine JL_call (wants_none rfl) rfl Tryd.call4 rfl (Ca_of0 fun w hh => c_laws_szDominoS _ w (fun _ hk => hk.elim) _ _ (hh.rd0 0 rfl) _ _ hr2) (fun _ => ?_)
  refine JL_q (wants_none rfl) rfl (ex_assign rfl) ?_
  refine JL_nil ?_
  refine N_then ?_
  refine J_seq ?_
  refine J_seq ?_
  refine J_region ?_
  refine JL_q (wants_none rfl) rfl (ex_move rfl) ?_
  refine JL_q (wants_none rfl) rfl (ex_lss rfl rfl) ?_
  refine JL_nil ?_
  refine N_then ?_
  refine J_if rfl (fun h3 => ?_) (fun h3 => ?_)
  · refine J_seq ?_
    refine J_region ?_
    refine JL_q (wants_none rfl) rfl (ex_assign rfl) ?_
    refine JL_nil ?_
    refine N_then ?_
    refine J_ret ?_
    refine N_then_ret ?_
    exact N_ret1 rfl (rv_tmp rfl) (fun w hh => ⟨(), rfl, hh.sel [] rfl⟩)
  · refine J_skip ?_
    refine N_then ?_
    refine J_seq ?_
    refine J_region ?_
    refine JL_q (wants_none rfl) rfl (ex_move rfl) ?_
    refine JL_bnd fun r4 hr5 => ?_
    refine JL_call (wants_none rfl) rfl Tryd.call6 rfl (Ca_self (fun _ => rfl) fun w hh => c_laws_toDominoS _ w (fun _ hk => hk.elim) _ _ (hh.rd0 0 rfl) _ hr5) (fun x6 => ?_)
    obtain ⟨x6_0, x6_1⟩ := x6
    refine JL_q (wants_none rfl) rfl (ex_move rfl) ?_
    refine JL_q (wants_none rfl) rfl (ex_move rfl) ?_
    refine JL_inline (wants_none rfl) rfl Tryd.call5 rfl Tryd.func5 rfl Tryd.ntmps5 rfl rfl (fun K_ hK7 => ?_)
    refine J_seq ?_
    refine J_region ?_
    refine JL_q (wants_none rfl) rfl (ex_assign rfl) ?_
    refine JL_q (wants_none rfl) rfl (ex_assign rfl) ?_
    refine JL_nil ?_
    refine N_then ?_
    refine J_seq ?_
    refine J_seq ?_
    refine J_region ?_
    refine JL_q (wants_none rfl) rfl (ex_move rfl) ?_
    refine JL_bnd fun r8 hr9 => ?_
    refine JL_call (wants_none rfl) rfl Tryd.call14 rfl (Ca_of0 fun w hh => c_spec_l32Is _ w (fun _ hk => hk.elim) _ _ (hh.od0 0 rfl) _ hr9) (fun _ => ?_)
    refine JL_q (wants_none rfl) rfl (ex_not rfl) ?_
    refine JL_nil ?_
    refine N_then ?_
    refine J_if rfl (fun h10 => ?_) (fun h10 => ?_)
    · refine J_seq ?_
      refine J_region ?_
      refine JL_q (wants_none rfl) rfl (ex_assign rfl) ?_
      refine JL_q (wants_none rfl) rfl (ex_assign rfl) ?_
      refine JL_nil ?_
      refine N_then ?_
      refine J_ret ?_
      refine N_then_ret ?_
      refine N_inl2 hK7 rfl (rv_tmp rfl) (rv_tmp rfl) ?_
      refine JL_q (wants_none rfl) rfl (ex_move rfl) ?_
      refine JL_q (wants_none rfl) rfl (ex_extract rfl rfl) ?_
      refine JL_q (wants_none rfl) rfl (ex_extract rfl rfl) ?_
      refine JL_q (wants_none rfl) rfl (ex_assign rfl) ?_
      refine JL_q (wants_none rfl) rfl (ex_assign rfl) ?_
      refine JL_nil ?_
      refine N_then ?_
      refine J_seq ?_
      refine J_region ?_
      refine JL_q (wants_none rfl) rfl (ex_move rfl) ?_
      refine JL_bnd fun r11 hr12 => ?_
      refine JL_call (wants_none rfl) rfl Tryd.call6 rfl (Ca_self (fun _ => rfl) fun w hh => c_laws_toDominoS _ w (fun _ hk => hk.elim) _ _ (hh.rd0 1 rfl) _ hr12) (fun x13 => ?_)
      obtain ⟨x13_0, x13_1⟩ := x13
      refine JL_q (wants_none rfl) rfl (ex_assign rfl) ?_
      refine JL_nil ?_
      refine N_then ?_
      refine J_seq ?_
      refine J_region ?_
      refine JL_q (wants_none rfl) rfl (ex_move rfl) ?_
      refine JL_q (wants_none rfl) rfl (ex_move rfl) ?_
      refine JL_q (wants_none rfl) rfl (ex_move rfl) ?_
      refine JL_bnd fun r14 hr15 => ?_
      refine JL_call (wants_none rfl) rfl Tryd.call7 rfl (Ca_self (fun _ => rfl) fun w hh => c_impl_SolveDominoes _ w (fun _ hk => hk.elim) (Stn.of hT_ hh) _ _ (hh.od0 0 rfl) _ _ _ hr15) (fun x16 => ?_)
      refine JL_q (wants_none rfl) rfl (ex_move rfl) ?_
      refine JL_q (wants_none rfl) rfl (ex_extract rfl rfl) ?_
      refine JL_q (wants_none rfl) rfl (ex_extract rfl rfl) ?_
      refine JL_q (wants_none rfl) rfl (ex_assign rfl) ?_
      refine JL_q (wants_none rfl) rfl (ex_assign rfl) ?_
      refine JL_nil ?_
      refine N_then ?_
      refine J_seq ?_
      refine J_cut' (S' := Unit) (G' := Unit) (fun _ _ => [(0, v0_), (1, .int .i64 p1), (2, .int .i64 p2), (8, .slice none 0 0), (9, .int .i64 1), (10, x13_0), (11, x16), (12, .int .i64 r14.2)]) (fun _ _ => [.rd v0_ p0, .od 40 x13_0 r11 x13_1, .ow 2 x16 r14.1]) ?_ (fun s17 g18 => ?_)
      · refine J_seq ?_
        refine J_region ?_
        refine JL_q (wants_none rfl) rfl (ex_move rfl) ?_
        refine JL_q (wants_none rfl) rfl (ex_move rfl) ?_
        refine JL_bnd fun r19 hr20 => ?_
        refine JL_call (wants_none rfl) rfl Tryd.call8 rfl (Ca_of0 fun w hh => c_laws_eqInt64S _ w (fun _ hk => hk.elim) _ _ (hh.ow0 0 rfl) _ _ rdNil _ hr20) (fun _ => ?_)
        refine JL_q (wants_none rfl) rfl (ex_not rfl) ?_
        refine JL_q (wants_none rfl) rfl (ex_move rfl) ?_
        refine JL_cond (fun h21 => ?_) (fun h21 => ?_)
        · refine JL_passed rfl rfl rfl h21 ?_
          refine JL_passed rfl rfl rfl h21 ?_
          refine JL_passed rfl rfl rfl h21 ?_
          refine JL_q (wants_none rfl) rfl (ex_pick_true rfl h21 rfl) ?_
          refine JL_nil ?_
          refine N_then ?_
          refine J_if_true rfl rfl ?_
          refine J_seq ?_
          refine J_region ?_
          refine JL_q (wants_none rfl) rfl (ex_assign rfl) ?_
          refine JL_nil ?_
          refine N_then ?_
          refine J_ret ?_
          refine N_mid_ret ?_
          refine N_then_ret ?_
          exact N_ret1 rfl (rv_tmp rfl) (fun w hh => ⟨(), rfl, hh.sel [] rfl⟩)
        · refine JL_q (wants_some rfl rfl rfl h21) rfl (ex_move rfl) ?_
          refine JL_q (wants_some rfl rfl rfl h21) rfl (ex_move rfl) ?_
          refine JL_q (wants_some rfl rfl rfl h21) rfl (ex_neq rfl rfl) ?_
          refine JL_q (wants_none rfl) rfl (ex_pick_false rfl h21 rfl) ?_
          refine JL_nil ?_
          refine N_then ?_
          refine J_if rfl (fun h22 => ?_) (fun h22 => ?_)
          · refine J_seq ?_
            refine J_region ?_
            refine JL_q (wants_none rfl) rfl (ex_assign rfl) ?_
            refine JL_nil ?_
            refine N_then ?_
            refine J_ret ?_
            refine N_mid_ret ?_
            refine N_then_ret ?_
            exact N_ret1 rfl (rv_tmp rfl) (fun w hh => ⟨(), rfl, hh.sel [] rfl⟩)
          · refine J_skip ?_
            exact N_meet' () ⟨rfl, rfl, rfl, rfl, rfl, rfl, rfl, rfl, trivial⟩ [3, 1, 0] rfl rfl
      · refine N_then ?_
        refine J_seq ?_
        refine J_seq ?_
        refine J_region ?_
        refine JL_q (wants_none rfl) rfl (ex_move rfl) ?_
        refine JL_q (wants_none rfl) rfl (ex_move rfl) ?_
        refine JL_bnd fun r23 hr24 => ?_
        refine JL_call (wants_none rfl) rfl Tryd.call6 rfl (Ca_self (fun _ => rfl) fun w hh => c_laws_toDominoS _ w (fun _ hk => hk.elim) _ _ (hh.rd0 0 rfl) _ hr24) (fun x25 => ?_)
        obtain ⟨x25_0, x25_1⟩ := x25
        refine JL_bnd fun r26 hr27 => ?_
        refine JL_call (wants_none rfl) rfl Tryd.call9 rfl (Ca_of0 fun w hh => c_laws_eqDominoS _ w (fun _ hk => hk.elim) _ _ (hh.od0 2 rfl) _ _ (hh.od0 0 rfl) _ hr27) (fun _ => ?_)
        refine JL_q (wants_none rfl) rfl (ex_not rfl) ?_
        refine JL_nil ?_
        refine N_then ?_
        refine J_if rfl (fun h28 => ?_) (fun h28 => ?_)
        · refine J_seq ?_
          refine J_region ?_
          refine JL_q (wants_none rfl) rfl (ex_assign rfl) ?_
          refine JL_nil ?_
          refine N_then ?_
          refine J_ret ?_
          refine N_then_ret ?_
          exact N_ret1 rfl (rv_tmp rfl) (fun w hh => ⟨(), rfl, hh.sel [] rfl⟩)
        · refine J_skip ?_
          refine N_then ?_
          refine J_seq ?_
          refine J_region ?_
          refine JL_q (wants_none rfl) rfl (ex_assign rfl) ?_
          refine JL_nil ?_
          refine N_then ?_
          refine J_seq ?_
          refine J_region ?_
          refine JL_q (wants_none rfl) rfl (ex_move rfl) ?_
          refine JL_q (wants_none rfl) rfl (ex_move rfl) ?_
          refine JL_bnd fun r29 hr30 => ?_
          refine JL_ctx (fun w hh => hh.tok 2 rfl) ?_
          refine JL_mark 0 [1, 4] mk_laws_markDominoS (wants_none rfl) rfl Tryd.call10 rfl rfl rfl rfl ((SH.start hA).start_rd rfl hp0) rfl hr30 ?_
          refine JL_q (wants_none rfl) rfl (ex_assign rfl) ?_
          refine JL_nil ?_
          refine N_then ?_
          refine J_seq ?_
          refine J_cut' (S' := Unit) (G' := Unit) (fun _ _ => [(0, v0_), (1, .int .i64 p1), (2, .int .i64 p2), (8, .slice none 0 0), (9, .int .i64 1), (11, x16)]) (fun _ _ => [.rd v0_ p0, .ow 2 x16 r14.1]) ?_ (fun s31 g32 => ?_)
          · refine J_seq ?_
            refine J_region ?_
            refine JL_q (wants_none rfl) rfl (ex_move rfl) ?_
            refine JL_q (wants_none rfl) rfl (ex_lss rfl rfl) ?_
            refine JL_q (wants_none rfl) rfl (ex_move rfl) ?_
            refine JL_cond (fun h33 => ?_) (fun h33 => ?_)
            · refine JL_passed rfl rfl rfl h33 ?_
              refine JL_passed rfl rfl rfl h33 ?_
              refine JL_passed rfl rfl rfl h33 ?_
              refine JL_passed rfl rfl rfl h33 ?_
              refine JL_q (wants_none rfl) rfl (ex_pick_true rfl h33 rfl) ?_
              refine JL_q (wants_none rfl) rfl (ex_move rfl) ?_
              refine JL_passed rfl rfl rfl rfl ?_
              refine JL_passed rfl rfl rfl rfl ?_
              refine JL_passed rfl rfl rfl rfl ?_
              refine JL_q (wants_none rfl) rfl (ex_pick_true rfl rfl rfl) ?_
              refine JL_nil ?_
              refine N_then ?_
              refine J_if_true rfl rfl ?_
              refine J_seq ?_
              refine J_region ?_
              refine JL_q (wants_none rfl) rfl (ex_assign rfl) ?_
              refine JL_nil ?_
              refine N_then ?_
              refine J_ret ?_
              refine N_mid_ret ?_
              refine N_then_ret ?_
              exact N_ret1 rfl (rv_tmp rfl) (fun w hh => ⟨(), rfl, hh.sel [] rfl⟩)
            · refine JL_q (wants_some rfl rfl rfl h33) rfl (ex_move rfl) ?_
              refine JL_q (wants_some rfl rfl rfl h33) rfl (ex_move rfl) ?_
              refine JL_bnd fun r34 hr35 => ?_
              refine JL_call (wants_some rfl rfl rfl h33) rfl Tryd.call8 rfl (Ca_of0 fun w hh => c_laws_eqInt64S _ w (fun _ hk => hk.elim) _ _ (hh.ow0 4 rfl) _ _ rdNil _ hr35) (fun _ => ?_)
              refine JL_q (wants_some rfl rfl rfl h33) rfl (ex_not rfl) ?_
              refine JL_q (wants_none rfl) rfl (ex_pick_false rfl h33 rfl) ?_
              refine JL_q (wants_none rfl) rfl (ex_move rfl) ?_
              refine JL_cond (fun h36 => ?_) (fun h36 => ?_)
              · refine JL_passed rfl rfl rfl h36 ?_
                refine JL_passed rfl rfl rfl h36 ?_
                refine JL_passed rfl rfl rfl h36 ?_
                refine JL_q (wants_none rfl) rfl (ex_pick_true rfl h36 rfl) ?_
                refine JL_nil ?_
                refine N_then ?_
                refine J_if_true rfl rfl ?_
                refine J_seq ?_
                refine J_region ?_
                refine JL_q (wants_none rfl) rfl (ex_assign rfl) ?_
                refine JL_nil ?_
                refine N_then ?_
                refine J_ret ?_
                refine N_mid_ret ?_
                refine N_then_ret ?_
                exact N_ret1 rfl (rv_tmp rfl) (fun w hh => ⟨(), rfl, hh.sel [] rfl⟩)
              · refine JL_q (wants_some rfl rfl rfl h36) rfl (ex_move rfl) ?_
                refine JL_q (wants_some rfl rfl rfl h36) rfl (ex_move rfl) ?_
                refine JL_q (wants_some rfl rfl rfl h36) rfl (ex_neq rfl rfl) ?_
                refine JL_q (wants_none rfl) rfl (ex_pick_false rfl h36 rfl) ?_
                refine JL_nil ?_
                refine N_then ?_
                refine J_if rfl (fun h37 => ?_) (fun h37 => ?_)
                · refine J_seq ?_
                  refine J_region ?_
                  refine JL_q (wants_none rfl) rfl (ex_assign rfl) ?_
                  refine JL_nil ?_
                  refine N_then ?_
                  refine J_ret ?_
                  refine N_mid_ret ?_
                  refine N_then_ret ?_
                  exact N_ret1 rfl (rv_tmp rfl) (fun w hh => ⟨(), rfl, hh.sel [] rfl⟩)
                · refine J_skip ?_
                  exact N_meet' () ⟨rfl, rfl, rfl, rfl, rfl, rfl, trivial⟩ [2, 4] rfl rfl
          · refine N_then ?_
            refine J_seq ?_
            refine J_region ?_
            refine JL_q (wants_none rfl) rfl (ex_assign rfl) ?_
            refine JL_nil ?_
            refine N_then ?_
            refine J_seq ?_
            refine J_region ?_
            refine JL_q (wants_none rfl) rfl (ex_move rfl) ?_
            refine JL_q (wants_none rfl) rfl (ex_move rfl) ?_
            refine JL_bnd fun r38 hr39 => ?_
            refine JL_ctx (fun w hh => hh.tokf 1 rfl rfl) ?_
            refine JL_mark 0 [] mk_laws_markInt64S (wants_none rfl) rfl Tryd.call11 rfl rfl rfl rfl ((SH.start hA).start_rd rfl hp0) rfl hr39 ?_
            refine JL_q (wants_none rfl) rfl (ex_assign rfl) ?_
            refine JL_nil ?_
            refine N_then ?_
            refine J_seq ?_
            refine J_region ?_
            refine JL_q (wants_none rfl) rfl (ex_assign rfl) ?_
            refine JL_nil ?_
            refine N_then ?_
            refine J_seq ?_
            refine J_region ?_
            refine JL_q (wants_none rfl) rfl (ex_move rfl) ?_
            refine JL_q (wants_none rfl) rfl (ex_move rfl) ?_
            refine JL_bnd fun r40 hr41 => ?_
            refine JL_call (wants_none rfl) rfl Tryd.call12 rfl (Ca_of0 fun w hh => c_laws_heldInt64S _ w (fun _ hk => hk.elim) _ _ (hh.rd0 0 rfl) _ _ hr41) (fun _ => ?_)
            refine JL_q (wants_none rfl) rfl (ex_assign rfl) ?_
            refine JL_nil ?_
            refine N_then ?_
            refine J_seq ?_
            refine J_seq ?_
            refine J_region ?_
            refine JL_q (wants_none rfl) rfl (ex_move rfl) ?_
            refine JL_q (wants_none rfl) rfl (ex_lss rfl rfl) ?_
            refine JL_nil ?_
            refine N_then ?_
            refine J_if rfl (fun h42 => ?_) (fun h42 => ?_)
            · refine J_seq ?_
              refine J_region ?_
              refine JL_q (wants_none rfl) rfl (ex_assign rfl) ?_
              refine JL_nil ?_
              refine N_then ?_
              refine J_ret ?_
              refine N_then_ret ?_
              exact N_ret1 rfl (rv_tmp rfl) (fun w hh => ⟨(), rfl, hh.sel [] rfl⟩)
            · refine J_skip ?_
              refine N_then ?_
              refine J_seq ?_
              refine J_seq ?_
              refine J_region ?_
              refine JL_q (wants_none rfl) rfl (ex_move rfl) ?_
              refine JL_q (wants_none rfl) rfl (ex_move rfl) ?_
              refine JL_q (wants_none rfl) rfl (ex_neq rfl rfl) ?_
              refine JL_nil ?_
              refine N_then ?_
              refine J_if rfl (fun h43 => ?_) (fun h43 => ?_)
              · refine J_seq ?_
                refine J_region ?_
                refine JL_q (wants_none rfl) rfl (ex_assign rfl) ?_
                refine JL_nil ?_
                refine N_then ?_
                refine J_ret ?_
                refine N_then_ret ?_
                exact N_ret1 rfl (rv_tmp rfl) (fun w hh => ⟨(), rfl, hh.sel [] rfl⟩)
              · refine J_skip ?_
                refine N_then ?_
                refine J_seq ?_
                refine J_region ?_
                refine JL_q (wants_none rfl) rfl (ex_move rfl) ?_
                refine JL_bnd fun r44 hr45 => ?_
                refine JL_call (wants_none rfl) rfl Tryd.call6 rfl (Ca_self (fun _ => rfl) fun w hh => c_laws_toDominoS _ w (fun _ hk => hk.elim) _ _ (hh.rd0 2 rfl) _ hr45) (fun x46 => ?_)
                obtain ⟨x46_0, x46_1⟩ := x46
                refine JL_q (wants_none rfl) rfl (ex_move rfl) ?_
                refine JL_q (wants_none rfl) rfl (ex_move rfl) ?_
                refine JL_bnd fun r47 hr48 => ?_
                refine JL_call (wants_none rfl) rfl Tryd.call7 rfl (Ca_self (fun _ => rfl) fun w hh => c_impl_SolveDominoes _ w (fun _ hk => hk.elim) (Stn.of hT_ hh) _ _ (hh.od0 0 rfl) _ _ _ hr48) (fun x49 => ?_)
                refine JL_q (wants_none rfl) rfl (ex_move rfl) ?_
                refine JL_q (wants_none rfl) rfl (ex_extract rfl rfl) ?_
                refine JL_q (wants_none rfl) rfl (ex_extract rfl rfl) ?_
                refine JL_q (wants_none rfl) rfl (ex_assign rfl) ?_
                refine JL_q (wants_none rfl) rfl (ex_assign rfl) ?_
                refine JL_nil ?_
                refine N_then ?_
                refine J_seq ?_
                refine J_seq ?_
                refine J_region ?_
                refine JL_q (wants_none rfl) rfl (ex_move rfl) ?_
                refine JL_q (wants_none rfl) rfl (ex_move rfl) ?_
                refine JL_bnd fun r50 hr51 => ?_
                refine JL_call (wants_none rfl) rfl Tryd.call8 rfl (Ca_of0 fun w hh => c_laws_eqInt64S _ w (fun _ hk => hk.elim) _ _ (hh.ow0 0 rfl) _ _ rdNil _ hr51) (fun _ => ?_)
                refine JL_q (wants_none rfl) rfl (ex_not rfl) ?_
                refine JL_q (wants_none rfl) rfl (ex_move rfl) ?_
                refine JL_cond (fun h52 => ?_) (fun h52 => ?_)
                · refine JL_passed rfl rfl rfl h52 ?_
                  refine JL_passed rfl rfl rfl h52 ?_
                  refine JL_passed rfl rfl rfl h52 ?_
                  refine JL_q (wants_none rfl) rfl (ex_pick_true rfl h52 rfl) ?_
                  refine JL_nil ?_
                  refine N_then ?_
                  refine J_if_true rfl rfl ?_
                  refine J_seq ?_
                  refine J_region ?_
                  refine JL_q (wants_none rfl) rfl (ex_assign rfl) ?_
                  refine JL_nil ?_
                  refine N_then ?_
                  refine J_ret ?_
                  refine N_then_ret ?_
                  exact N_ret1 rfl (rv_tmp rfl) (fun w hh => ⟨(), rfl, hh.sel [] rfl⟩)
                · refine JL_q (wants_some rfl rfl rfl h52) rfl (ex_move rfl) ?_
                  refine JL_q (wants_some rfl rfl rfl h52) rfl (ex_move rfl) ?_
                  refine JL_q (wants_some rfl rfl rfl h52) rfl (ex_neq rfl rfl) ?_
                  refine JL_q (wants_none rfl) rfl (ex_pick_false rfl h52 rfl) ?_
                  refine JL_nil ?_
                  refine N_then ?_
                  refine J_if rfl (fun h53 => ?_) (fun h53 => ?_)
                  · refine J_seq ?_
                    refine J_region ?_
                    refine JL_q (wants_none rfl) rfl (ex_assign rfl) ?_
                    refine JL_nil ?_
                    refine N_then ?_
                    refine J_ret ?_
                    refine N_then_ret ?_
                    exact N_ret1 rfl (rv_tmp rfl) (fun w hh => ⟨(), rfl, hh.sel [] rfl⟩)
                  · refine J_skip ?_
                    refine N_then ?_
                    refine J_seq ?_
                    refine J_region ?_
                    refine JL_q (wants_none rfl) rfl (ex_assign rfl) ?_
                    refine JL_nil ?_
                    refine N_then ?_
                    refine J_seq ?_
                    refine J_region ?_
                    refine JL_q (wants_none rfl) rfl (ex_move rfl) ?_
                    refine JL_q (wants_none rfl) rfl (ex_move rfl) ?_
                    refine JL_bnd fun r54 hr55 => ?_
                    refine JL_call (wants_none rfl) rfl Tryd.call12 rfl (Ca_of0 fun w hh => c_laws_heldInt64S _ w (fun _ hk => hk.elim) _ _ (hh.rd0 2 rfl) _ _ hr55) (fun _ => ?_)
                    refine JL_q (wants_none rfl) rfl (ex_assign rfl) ?_
                    refine JL_nil ?_
                    refine N_then ?_
                    refine J_seq ?_
                    refine J_seq ?_
                    refine J_region ?_
                    refine JL_q (wants_none rfl) rfl (ex_move rfl) ?_
                    refine JL_q (wants_none rfl) rfl (ex_lss rfl rfl) ?_
                    refine JL_nil ?_
                    refine N_then ?_
                    refine J_if rfl (fun h56 => ?_) (fun h56 => ?_)
                    · refine J_seq ?_
                      refine J_region ?_
                      refine JL_q (wants_none rfl) rfl (ex_assign rfl) ?_
                      refine JL_nil ?_
                      refine N_then ?_
                      refine J_ret ?_
                      refine N_then_ret ?_
                      exact N_ret1 rfl (rv_tmp rfl) (fun w hh => ⟨(), rfl, hh.sel [] rfl⟩)
                    · refine J_skip ?_
                      refine N_then ?_
                      refine J_seq ?_
                      refine J_seq ?_
                      refine J_region ?_
                      refine JL_q (wants_none rfl) rfl (ex_move rfl) ?_
                      refine JL_q (wants_none rfl) rfl (ex_move rfl) ?_
                      refine JL_q (wants_none rfl) rfl (ex_neq rfl rfl) ?_
                      refine JL_nil ?_
                      refine N_then ?_
                      refine J_if rfl (fun h57 => ?_) (fun h57 => ?_)
                      · refine J_seq ?_
                        refine J_region ?_
                        refine JL_q (wants_none rfl) rfl (ex_assign rfl) ?_
                        refine JL_nil ?_
                        refine N_then ?_
                        refine J_ret ?_
                        refine N_then_ret ?_
                        exact N_ret1 rfl (rv_tmp rfl) (fun w hh => ⟨(), rfl, hh.sel [] rfl⟩)
                      · refine J_skip ?_
                        refine N_then ?_
                        refine J_seq ?_
                        refine J_region ?_
                        refine JL_q (wants_none rfl) rfl (ex_assign rfl) ?_
                        refine JL_nil ?_
                        refine N_then ?_
                        refine J_ret ?_
                        exact N_ret1 rfl (rv_tmp rfl) (fun w hh => ⟨(), rfl, hh.sel [] rfl⟩)
    · refine J_skip ?_
      refine N_then ?_
      refine J_seq ?_
      refine J_cut' (S' := Unit) (G' := Unit) (fun _ _ => [(0, x6_0), (1, .int .i64 p1), (2, .int .i64 p2)]) (fun _ _ => [.od 40 x6_0 r4 x6_1, .rd v0_ p0]) ?_ (fun s58 g59 => ?_)
      · refine J_seq ?_
        refine J_region ?_
        refine JL_q (wants_none rfl) rfl (ex_move rfl) ?_
        refine JL_bnd fun r60 hr61 => ?_
        refine JL_call (wants_none rfl) rfl Tryd.call15 rfl (Ca_of0 fun w hh => c_spec_l05Budget _ w (fun _ hk => hk.elim) _ _ hr61) (fun _ => ?_)
        refine JL_q (wants_none rfl) rfl (ex_not rfl) ?_
        refine JL_q (wants_none rfl) rfl (ex_move rfl) ?_
        refine JL_cond (fun h62 => ?_) (fun h62 => ?_)
        · refine JL_passed rfl rfl rfl h62 ?_
          refine JL_passed rfl rfl rfl h62 ?_
          refine JL_passed rfl rfl rfl h62 ?_
          refine JL_passed rfl rfl rfl h62 ?_
          refine JL_passed rfl rfl rfl h62 ?_
          refine JL_passed rfl rfl rfl h62 ?_
          refine JL_q (wants_none rfl) rfl (ex_pick_true rfl h62 rfl) ?_
          refine JL_nil ?_
          refine N_then ?_
          refine J_if_true rfl rfl ?_
          refine J_seq ?_
          refine J_region ?_
          refine JL_q (wants_none rfl) rfl (ex_assign rfl) ?_
          refine JL_q (wants_none rfl) rfl (ex_assign rfl) ?_
          refine JL_nil ?_
          refine N_then ?_
          refine J_ret ?_
          refine N_mid_reti ?_
          refine N_then_ret ?_
          refine N_inl2 hK7 rfl (rv_tmp rfl) (rv_tmp rfl) ?_
          refine JL_q (wants_none rfl) rfl (ex_move rfl) ?_
          refine JL_q (wants_none rfl) rfl (ex_extract rfl rfl) ?_
          refine JL_q (wants_none rfl) rfl (ex_extract rfl rfl) ?_
          refine JL_q (wants_none rfl) rfl (ex_assign rfl) ?_
          refine JL_q (wants_none rfl) rfl (ex_assign rfl) ?_
          refine JL_nil ?_
          refine N_then ?_
          refine J_seq ?_
          refine J_region ?_
          refine JL_q (wants_none rfl) rfl (ex_move rfl) ?_
          refine JL_bnd fun r63 hr64 => ?_
          refine JL_call (wants_none rfl) rfl Tryd.call6 rfl (Ca_self (fun _ => rfl) fun w hh => c_laws_toDominoS _ w (fun _ hk => hk.elim) _ _ (hh.rd0 1 rfl) _ hr64) (fun x65 => ?_)
          obtain ⟨x65_0, x65_1⟩ := x65
          refine JL_q (wants_none rfl) rfl (ex_assign rfl) ?_
          refine JL_nil ?_
          refine N_then ?_
          refine J_seq ?_
          refine J_region ?_
          refine JL_q (wants_none rfl) rfl (ex_move rfl) ?_
          refine JL_q (wants_none rfl) rfl (ex_move rfl) ?_
          refine JL_q (wants_none rfl) rfl (ex_move rfl) ?_
          refine JL_bnd fun r66 hr67 => ?_
          refine JL_call (wants_none rfl) rfl Tryd.call7 rfl (Ca_self (fun _ => rfl) fun w hh => c_impl_SolveDominoes _ w (fun _ hk => hk.elim) (Stn.of hT_ hh) _ _ (hh.od0 0 rfl) _ _ _ hr67) (fun x68 => ?_)
          refine JL_q (wants_none rfl) rfl (ex_move rfl) ?_
          refine JL_q (wants_none rfl) rfl (ex_extract rfl rfl) ?_
          refine JL_q (wants_none rfl) rfl (ex_extract rfl rfl) ?_
          refine JL_q (wants_none rfl) rfl (ex_assign rfl) ?_
          refine JL_q (wants_none rfl) rfl (ex_assign rfl) ?_
          refine JL_nil ?_
          refine N_then ?_
          refine J_seq ?_
          refine J_cut' (S' := Unit) (G' := Unit) (fun _ _ => [(0, v0_), (1, .int .i64 p1), (2, .int .i64 p2), (8, .slice none 0 0), (9, .int .i64 2), (10, x65_0), (11, x68), (12, .int .i64 r66.2)]) (fun _ _ => [.rd v0_ p0, .od 40 x65_0 r63 x65_1, .ow 2 x68 r66.1]) ?_ (fun s69 g70 => ?_)
          · refine J_seq ?_
            refine J_region ?_
            refine JL_q (wants_none rfl) rfl (ex_move rfl) ?_
            refine JL_q (wants_none rfl) rfl (ex_move rfl) ?_
            refine JL_bnd fun r71 hr72 => ?_
            refine JL_call (wants_none rfl) rfl Tryd.call8 rfl (Ca_of0 fun w hh => c_laws_eqInt64S _ w (fun _ hk => hk.elim) _ _ (hh.ow0 0 rfl) _ _ rdNil _ hr72) (fun _ => ?_)
            refine JL_q (wants_none rfl) rfl (ex_not rfl) ?_
            refine JL_q (wants_none rfl) rfl (ex_move rfl) ?_
            refine JL_cond (fun h73 => ?_) (fun h73 => ?_)
            · refine JL_passed rfl rfl rfl h73 ?_
              refine JL_passed rfl rfl rfl h73 ?_
              refine JL_passed rfl rfl rfl h73 ?_
              refine JL_q (wants_none rfl) rfl (ex_pick_true rfl h73 rfl) ?_
              refine JL_nil ?_
              refine N_then ?_
              refine J_if_true rfl rfl ?_
              refine J_seq ?_
              refine J_region ?_
              refine JL_q (wants_none rfl) rfl (ex_assign rfl) ?_
              refine JL_nil ?_
              refine N_then ?_
              refine J_ret ?_
              refine N_mid_ret ?_
              refine N_then_ret ?_
              exact N_ret1 rfl (rv_tmp rfl) (fun w hh => ⟨(), rfl, hh.sel [] rfl⟩)
            · refine JL_q (wants_some rfl rfl rfl h73) rfl (ex_move rfl) ?_
              refine JL_q (wants_some rfl rfl rfl h73) rfl (ex_move rfl) ?_
              refine JL_q (wants_some rfl rfl rfl h73) rfl (ex_neq rfl rfl) ?_
              refine JL_q (wants_none rfl) rfl (ex_pick_false rfl h73 rfl) ?_
              refine JL_nil ?_
              refine N_then ?_
              refine J_if rfl (fun h74 => ?_) (fun h74 => ?_)
              · refine J_seq ?_
                refine J_region ?_
                refine JL_q (wants_none rfl) rfl (ex_assign rfl) ?_
                refine JL_nil ?_
                refine N_then ?_
                refine J_ret ?_
                refine N_mid_ret ?_
                refine N_then_ret ?_
                exact N_ret1 rfl (rv_tmp rfl) (fun w hh => ⟨(), rfl, hh.sel [] rfl⟩)
              · refine J_skip ?_
                exact N_meet' () ⟨rfl, rfl, rfl, rfl, rfl, rfl, rfl, rfl, trivial⟩ [3, 1, 0] rfl rfl
          · refine N_then ?_
            refine J_seq ?_
            refine J_seq ?_
            refine J_region ?_
            refine JL_q (wants_none rfl) rfl (ex_move rfl) ?_
            refine JL_q (wants_none rfl) rfl (ex_move rfl) ?_
            refine JL_bnd fun r75 hr76 => ?_
            refine JL_call (wants_none rfl) rfl Tryd.call6 rfl (Ca_self (fun _ => rfl) fun w hh => c_laws_toDominoS _ w (fun _ hk => hk.elim) _ _ (hh.rd0 0 rfl) _ hr76) (fun x77 => ?_)
            obtain ⟨x77_0, x77_1⟩ := x77
            refine JL_bnd fun r78 hr79 => ?_
            refine JL_call (wants_none rfl) rfl Tryd.call9 rfl (Ca_of0 fun w hh => c_laws_eqDominoS _ w (fun _ hk => hk.elim) _ _ (hh.od0 2 rfl) _ _ (hh.od0 0 rfl) _ hr79) (fun _ => ?_)
            refine JL_q (wants_none rfl) rfl (ex_not rfl) ?_
            refine JL_nil ?_
            refine N_then ?_
            refine J_if rfl (fun h80 => ?_) (fun h80 => ?_)
            · refine J_seq ?_
              refine J_region ?_
              refine JL_q (wants_none rfl) rfl (ex_assign rfl) ?_
              refine JL_nil ?_
              refine N_then ?_
              refine J_ret ?_
              refine N_then_ret ?_
              exact N_ret1 rfl (rv_tmp rfl) (fun w hh => ⟨(), rfl, hh.sel [] rfl⟩)
            · refine J_skip ?_
              refine N_then ?_
              refine J_seq ?_
              refine J_region ?_
              refine JL_q (wants_none rfl) rfl (ex_assign rfl) ?_
              refine JL_nil ?_
              refine N_then ?_
              refine J_seq ?_
              refine J_region ?_
              refine JL_q (wants_none rfl) rfl (ex_move rfl) ?_
              refine JL_q (wants_none rfl) rfl (ex_move rfl) ?_
              refine JL_bnd fun r81 hr82 => ?_
              refine JL_ctx (fun w hh => hh.tok 2 rfl) ?_
              refine JL_mark 0 [1, 4] mk_laws_markDominoS (wants_none rfl) rfl Tryd.call10 rfl rfl rfl rfl ((SH.start hA).start_rd rfl hp0) rfl hr82 ?_
              refine JL_q (wants_none rfl) rfl (ex_assign rfl) ?_
              refine JL_nil ?_
              refine N_then ?_
              refine J_seq ?_
              refine J_cut' (S' := Unit) (G' := Unit) (fun _ _ => [(0, v0_), (1, .int .i64 p1), (2, .int .i64 p2), (8, .slice none 0 0), (9, .int .i64 2), (11, x68)]) (fun _ _ => [.rd v0_ p0, .ow 2 x68 r66.1]) ?_ (fun s83 g84 => ?_)
              · refine J_seq ?_
                refine J_region ?_
                refine JL_q (wants_none rfl) rfl (ex_move rfl) ?_
                refine JL_q (wants_none rfl) rfl (ex_lss rfl rfl) ?_
                refine JL_q (wants_none rfl) rfl (ex_move rfl) ?_
                refine JL_cond (fun h85 => ?_) (fun h85 => ?_)
                · refine JL_passed rfl rfl rfl h85 ?_
                  refine JL_passed rfl rfl rfl h85 ?_
                  refine JL_passed rfl rfl rfl h85 ?_
                  refine JL_passed rfl rfl rfl h85 ?_
                  refine JL_q (wants_none rfl) rfl (ex_pick_true rfl h85 rfl) ?_
                  refine JL_q (wants_none rfl) rfl (ex_move rfl) ?_
                  refine JL_passed rfl rfl rfl rfl ?_
                  refine JL_passed rfl rfl rfl rfl ?_
                  refine JL_passed rfl rfl rfl rfl ?_
                  refine JL_q (wants_none rfl) rfl (ex_pick_true rfl rfl rfl) ?_
                  refine JL_nil ?_
                  refine N_then ?_
                  refine J_if_true rfl rfl ?_
                  refine J_seq ?_
                  refine J_region ?_
                  refine JL_q (wants_none rfl) rfl (ex_assign rfl) ?_
                  refine JL_nil ?_
                  refine N_then ?_
                  refine J_ret ?_
                  refine N_mid_ret ?_
                  refine N_then_ret ?_
                  exact N_ret1 rfl (rv_tmp rfl) (fun w hh => ⟨(), rfl, hh.sel [] rfl⟩)
                · refine JL_q (wants_some rfl rfl rfl h85) rfl (ex_move rfl) ?_
                  refine JL_q (wants_some rfl rfl rfl h85) rfl (ex_move rfl) ?_
                  refine JL_bnd fun r86 hr87 => ?_
                  refine JL_call (wants_some rfl rfl rfl h85) rfl Tryd.call8 rfl (Ca_of0 fun w hh => c_laws_eqInt64S _ w (fun _ hk => hk.elim) _ _ (hh.ow0 4 rfl) _ _ rdNil _ hr87) (fun _ => ?_)
                  refine JL_q (wants_some rfl rfl rfl h85) rfl (ex_not rfl) ?_
                  refine JL_q (wants_none rfl) rfl (ex_pick_false rfl h85 rfl) ?_
                  refine JL_q (wants_none rfl) rfl (ex_move rfl) ?_
                  refine JL_cond (fun h88 => ?_) (fun h88 => ?_)
                  · refine JL_passed rfl rfl rfl h88 ?_
                    refine JL_passed rfl rfl rfl h88 ?_
                    refine JL_passed rfl rfl rfl h88 ?_
                    refine JL_q (wants_none rfl) rfl (ex_pick_true rfl h88 rfl) ?_
                    refine JL_nil ?_
                    refine N_then ?_
                    refine J_if_true rfl rfl ?_
                    refine J_seq ?_
                    refine J_region ?_
                    refine JL_q (wants_none rfl) rfl (ex_assign rfl) ?_
                    refine JL_nil ?_
                    refine N_then ?_
                    refine J_ret ?_
                    refine N_mid_ret ?_
                    refine N_then_ret ?_
                    exact N_ret1 rfl (rv_tmp rfl) (fun w hh => ⟨(), rfl, hh.sel [] rfl⟩)
                  · refine JL_q (wants_some rfl rfl rfl h88) rfl (ex_move rfl) ?_
                    refine JL_q (wants_some rfl rfl rfl h88) rfl (ex_move rfl) ?_
                    refine JL_q (wants_some rfl rfl rfl h88) rfl (ex_neq rfl rfl) ?_
                    refine JL_q (wants_none rfl) rfl (ex_pick_false rfl h88 rfl) ?_
                    refine JL_nil ?_
                    refine N_then ?_
                    refine J_if rfl (fun h89 => ?_) (fun h89 => ?_)
                    · refine J_seq ?_
                      refine J_region ?_
                      refine JL_q (wants_none rfl) rfl (ex_assign rfl) ?_
                      refine JL_nil ?_
                      refine N_then ?_
                      refine J_ret ?_
                      refine N_mid_ret ?_
                      refine N_then_ret ?_
                      exact N_ret1 rfl (rv_tmp rfl) (fun w hh => ⟨(), rfl, hh.sel [] rfl⟩)
                    · refine J_skip ?_
                      exact N_meet' () ⟨rfl, rfl, rfl, rfl, rfl, rfl, trivial⟩ [2, 4] rfl rfl
              · refine N_then ?_
                refine J_seq ?_
                refine J_region ?_
                refine JL_q (wants_none rfl) rfl (ex_assign rfl) ?_
                refine JL_nil ?_
                refine N_then ?_
                refine J_seq ?_
                refine J_region ?_
                refine JL_q (wants_none rfl) rfl (ex_move rfl) ?_
                refine JL_q (wants_none rfl) rfl (ex_move rfl) ?_
                refine JL_bnd fun r90 hr91 => ?_
                refine JL_ctx (fun w hh => hh.tokf 1 rfl rfl) ?_
                refine JL_mark 0 [] mk_laws_markInt64S (wants_none rfl) rfl Tryd.call11 rfl rfl rfl rfl ((SH.start hA).start_rd rfl hp0) rfl hr91 ?_
                refine JL_q (wants_none rfl) rfl (ex_assign rfl) ?_
                refine JL_nil ?_
                refine N_then ?_
                refine J_seq ?_
                refine J_region ?_
                refine JL_q (wants_none rfl) rfl (ex_assign rfl) ?_
                refine JL_nil ?_
                refine N_then ?_
                refine J_seq ?_
                refine J_region ?_
                refine JL_q (wants_none rfl) rfl (ex_move rfl) ?_
                refine JL_q (wants_none rfl) rfl (ex_move rfl) ?_
                refine JL_bnd fun r92 hr93 => ?_
                refine JL_call (wants_none rfl) rfl Tryd.call12 rfl (Ca_of0 fun w hh => c_laws_heldInt64S _ w (fun _ hk => hk.elim) _ _ (hh.rd0 0 rfl) _ _ hr93) (fun _ => ?_)
                refine JL_q (wants_none rfl) rfl (ex_assign rfl) ?_
                refine JL_nil ?_
                refine N_then ?_
                refine J_seq ?_
                refine J_seq ?_
                refine J_region ?_
                refine JL_q (wants_none rfl) rfl (ex_move rfl) ?_
                refine JL_q (wants_none rfl) rfl (ex_lss rfl rfl) ?_
                refine JL_nil ?_
                refine N_then ?_
                refine J_if rfl (fun h94 => ?_) (fun h94 => ?_)
                · refine J_seq ?_
                  refine J_region ?_
                  refine JL_q (wants_none rfl) rfl (ex_assign rfl) ?_
                  refine JL_nil ?_
                  refine N_then ?_
                  refine J_ret ?_
                  refine N_then_ret ?_
                  exact N_ret1 rfl (rv_tmp rfl) (fun w hh => ⟨(), rfl, hh.sel [] rfl⟩)
                · refine J_skip ?_
                  refine N_then ?_
                  refine J_seq ?_
                  refine J_seq ?_
                  refine J_region ?_
                  refine JL_q (wants_none rfl) rfl (ex_move rfl) ?_
                  refine JL_q (wants_none rfl) rfl (ex_move rfl) ?_
                  refine JL_q (wants_none rfl) rfl (ex_neq rfl rfl) ?_
                  refine JL_nil ?_
                  refine N_then ?_
                  refine J_if rfl (fun h95 => ?_) (fun h95 => ?_)
                  · refine J_seq ?_
                    refine J_region ?_
                    refine JL_q (wants_none rfl) rfl (ex_assign rfl) ?_
                    refine JL_nil ?_
                    refine N_then ?_
                    refine J_ret ?_
                    refine N_then_ret ?_
                    exact N_ret1 rfl (rv_tmp rfl) (fun w hh => ⟨(), rfl, hh.sel [] rfl⟩)
                  · refine J_skip ?_
                    refine N_then ?_
                    refine J_seq ?_
                    refine J_region ?_
                    refine JL_q (wants_none rfl) rfl (ex_move rfl) ?_
                    refine JL_bnd fun r96 hr97 => ?_
                    refine JL_call (wants_none rfl) rfl Tryd.call6 rfl (Ca_self (fun _ => rfl) fun w hh => c_laws_toDominoS _ w (fun _ hk => hk.elim) _ _ (hh.rd0 2 rfl) _ hr97) (fun x98 => ?_)
                    obtain ⟨x98_0, x98_1⟩ := x98
                    refine JL_q (wants_none rfl) rfl (ex_move rfl) ?_
                    refine JL_q (wants_none rfl) rfl (ex_move rfl) ?_
                    refine JL_bnd fun r99 hr100 => ?_
                    refine JL_call (wants_none rfl) rfl Tryd.call7 rfl (Ca_self (fun _ => rfl) fun w hh => c_impl_SolveDominoes _ w (fun _ hk => hk.elim) (Stn.of hT_ hh) _ _ (hh.od0 0 rfl) _ _ _ hr100) (fun x101 => ?_)
                    refine JL_q (wants_none rfl) rfl (ex_move rfl) ?_
                    refine JL_q (wants_none rfl) rfl (ex_extract rfl rfl) ?_
                    refine JL_q (wants_none rfl) rfl (ex_extract rfl rfl) ?_
                    refine JL_q (wants_none rfl) rfl (ex_assign rfl) ?_
                    refine JL_q (wants_none rfl) rfl (ex_assign rfl) ?_
                    refine JL_nil ?_
                    refine N_then ?_
                    refine J_seq ?_
                    refine J_seq ?_
                    refine J_region ?_
                    refine JL_q (wants_none rfl) rfl (ex_move rfl) ?_
                    refine JL_q (wants_none rfl) rfl (ex_move rfl) ?_
                    refine JL_bnd fun r102 hr103 => ?_
                    refine JL_call (wants_none rfl) rfl Tryd.call8 rfl (Ca_of0 fun w hh => c_laws_eqInt64S _ w (fun _ hk => hk.elim) _ _ (hh.ow0 0 rfl) _ _ rdNil _ hr103) (fun _ => ?_)
                    refine JL_q (wants_none rfl) rfl (ex_not rfl) ?_
                    refine JL_q (wants_none rfl) rfl (ex_move rfl) ?_
                    refine JL_cond (fun h104 => ?_) (fun h104 => ?_)
                    · refine JL_passed rfl rfl rfl h104 ?_
                      refine JL_passed rfl rfl rfl h104 ?_
                      refine JL_passed rfl rfl rfl h104 ?_
                      refine JL_q (wants_none rfl) rfl (ex_pick_true rfl h104 rfl) ?_
                      refine JL_nil ?_
                      refine N_then ?_
                      refine J_if_true rfl rfl ?_
                      refine J_seq ?_
                      refine J_region ?_
                      refine JL_q (wants_none rfl) rfl (ex_assign rfl) ?_
                      refine JL_nil ?_
                      refine N_then ?_
                      refine J_ret ?_
                      refine N_then_ret ?_
                      exact N_ret1 rfl (rv_tmp rfl) (fun w hh => ⟨(), rfl, hh.sel [] rfl⟩)
                    · refine JL_q (wants_some rfl rfl rfl h104) rfl (ex_move rfl) ?_
                      refine JL_q (wants_some rfl rfl rfl h104) rfl (ex_move rfl) ?_
                      refine JL_q (wants_some rfl rfl rfl h104) rfl (ex_neq rfl rfl) ?_
                      refine JL_q (wants_none rfl) rfl (ex_pick_false rfl h104 rfl) ?_
                      refine JL_nil ?_
                      refine N_then ?_
                      refine J_if rfl (fun h105 => ?_) (fun h105 => ?_)
                      · refine J_seq ?_
                        refine J_region ?_
                        refine JL_q (wants_none rfl) rfl (ex_assign rfl) ?_
                        refine JL_nil ?_
                        refine N_then ?_
                        refine J_ret ?_
                        refine N_then_ret ?_
                        exact N_ret1 rfl (rv_tmp rfl) (fun w hh => ⟨(), rfl, hh.sel [] rfl⟩)
                      · refine J_skip ?_
                        refine N_then ?_
                        refine J_seq ?_
                        refine J_region ?_
                        refine JL_q (wants_none rfl) rfl (ex_assign rfl) ?_
                        refine JL_nil ?_
                        refine N_then ?_
                        refine J_seq ?_
                        refine J_region ?_
                        refine JL_q (wants_none rfl) rfl (ex_move rfl) ?_
                        refine JL_q (wants_none rfl) rfl (ex_move rfl) ?_
                        refine JL_bnd fun r106 hr107 => ?_
                        refine JL_call (wants_none rfl) rfl Tryd.call12 rfl (Ca_of0 fun w hh => c_laws_heldInt64S _ w (fun _ hk => hk.elim) _ _ (hh.rd0 2 rfl) _ _ hr107) (fun _ => ?_)
                        refine JL_q (wants_none rfl) rfl (ex_assign rfl) ?_
                        refine JL_nil ?_
                        refine N_then ?_
                        refine J_seq ?_
                        refine J_seq ?_
                        refine J_region ?_
                        refine JL_q (wants_none rfl) rfl (ex_move rfl) ?_
                        refine JL_q (wants_none rfl) rfl (ex_lss rfl rfl) ?_
                        refine JL_nil ?_
                        refine N_then ?_
                        refine J_if rfl (fun h108 => ?_) (fun h108 => ?_)
                        · refine J_seq ?_
                          refine J_region ?_
                          refine JL_q (wants_none rfl) rfl (ex_assign rfl) ?_
                          refine JL_nil ?_
                          refine N_then ?_
                          refine J_ret ?_
                          refine N_then_ret ?_
                          exact N_ret1 rfl (rv_tmp rfl) (fun w hh => ⟨(), rfl, hh.sel [] rfl⟩)
                        · refine J_skip ?_
                          refine N_then ?_
                          refine J_seq ?_
                          refine J_seq ?_
                          refine J_region ?_
                          refine JL_q (wants_none rfl) rfl (ex_move rfl) ?_
                          refine JL_q (wants_none rfl) rfl (ex_move rfl) ?_
                          refine JL_q (wants_none rfl) rfl (ex_neq rfl rfl) ?_
                          refine JL_nil ?_
                          refine N_then ?_
                          refine J_if rfl (fun h109 => ?_) (fun h109 => ?_)
                          · refine J_seq ?_
                            refine J_region ?_
                            refine JL_q (wants_none rfl) rfl (ex_assign rfl) ?_
                            refine JL_nil ?_
                            refine N_then ?_
                            refine J_ret ?_
                            refine N_then_ret ?_
                            exact N_ret1 rfl (rv_tmp rfl) (fun w hh => ⟨(), rfl, hh.sel [] rfl⟩)
                          · refine J_skip ?_
                            refine N_then ?_
                            refine J_seq ?_
                            refine J_region ?_
                            refine JL_q (wants_none rfl) rfl (ex_assign rfl) ?_
                            refine JL_nil ?_
                            refine N_then ?_
                            refine J_ret ?_
                            exact N_ret1 rfl (rv_tmp rfl) (fun w hh => ⟨(), rfl, hh.sel [] rfl⟩)
        · refine JL_q (wants_some rfl rfl rfl h62) rfl (ex_move rfl) ?_
          refine JL_q (wants_some rfl rfl rfl h62) rfl (ex_move rfl) ?_
          refine JL_q (wants_some rfl rfl rfl h62) rfl (ex_od 0 rfl (ex_len_ow 0 Tryd.underlying27 rfl rfl)) ?_
          refine JL_q (wants_some rfl rfl rfl h62) rfl (ex_sub rfl rfl) ?_
          refine JL_bnd fun r110 hr111 => ?_
          refine JL_call (wants_some rfl rfl rfl h62) rfl Tryd.call16 rfl (Ca_of0 fun w hh => c_spec_l00In _ w (fun _ hk => hk.elim) _ _ _ _ hr111) (fun _ => ?_)
          refine JL_q (wants_some rfl rfl rfl h62) rfl (ex_not rfl) ?_
          refine JL_q (wants_none rfl) rfl (ex_pick_false rfl h62 rfl) ?_
          refine JL_nil ?_
          refine N_then ?_
          refine J_if rfl (fun h112 => ?_) (fun h112 => ?_)
          · refine J_seq ?_
            refine J_region ?_
            refine JL_q (wants_none rfl) rfl (ex_assign rfl) ?_
            refine JL_q (wants_none rfl) rfl (ex_assign rfl) ?_
            refine JL_nil ?_
            refine N_then ?_
            refine J_ret ?_
            refine N_mid_reti ?_
            refine N_then_ret ?_
            refine N_inl2 hK7 rfl (rv_tmp rfl) (rv_tmp rfl) ?_
            refine JL_q (wants_none rfl) rfl (ex_move rfl) ?_
            refine JL_q (wants_none rfl) rfl (ex_extract rfl rfl) ?_
            refine JL_q (wants_none rfl) rfl (ex_extract rfl rfl) ?_
            refine JL_q (wants_none rfl) rfl (ex_assign rfl) ?_
            refine JL_q (wants_none rfl) rfl (ex_assign rfl) ?_
            refine JL_nil ?_
            refine N_then ?_
            refine J_seq ?_
            refine J_region ?_
            refine JL_q (wants_none rfl) rfl (ex_move rfl) ?_
            refine JL_bnd fun r113 hr114 => ?_
            refine JL_call (wants_none rfl) rfl Tryd.call6 rfl (Ca_self (fun _ => rfl) fun w hh => c_laws_toDominoS _ w (fun _ hk => hk.elim) _ _ (hh.rd0 1 rfl) _ hr114) (fun x115 => ?_)
            obtain ⟨x115_0, x115_1⟩ := x115
            refine JL_q (wants_none rfl) rfl (ex_assign rfl) ?_
            refine JL_nil ?_
            refine N_then ?_
            refine J_seq ?_
            refine J_region ?_
            refine JL_q (wants_none rfl) rfl (ex_move rfl) ?_
            refine JL_q (wants_none rfl) rfl (ex_move rfl) ?_
            refine JL_q (wants_none rfl) rfl (ex_move rfl) ?_
            refine JL_bnd fun r116 hr117 => ?_
            refine JL_call (wants_none rfl) rfl Tryd.call7 rfl (Ca_self (fun _ => rfl) fun w hh => c_impl_SolveDominoes _ w (fun _ hk => hk.elim) (Stn.of hT_ hh) _ _ (hh.od0 0 rfl) _ _ _ hr117) (fun x118 => ?_)
            refine JL_q (wants_none rfl) rfl (ex_move rfl) ?_
            refine JL_q (wants_none rfl) rfl (ex_extract rfl rfl) ?_
            refine JL_q (wants_none rfl) rfl (ex_extract rfl rfl) ?_
            refine JL_q (wants_none rfl) rfl (ex_assign rfl) ?_
            refine JL_q (wants_none rfl) rfl (ex_assign rfl) ?_
            refine JL_nil ?_
            refine N_then ?_
            refine J_seq ?_
            refine J_cut' (S' := Unit) (G' := Unit) (fun _ _ => [(0, v0_), (1, .int .i64 p1), (2, .int .i64 p2), (8, .slice none 0 0), (9, .int .i64 2), (10, x115_0), (11, x118), (12, .int .i64 r116.2)]) (fun _ _ => [.rd v0_ p0, .od 40 x115_0 r113 x115_1, .ow 2 x118 r116.1]) ?_ (fun s119 g120 => ?_)
            · refine J_seq ?_
              refine J_region ?_
              refine JL_q (wants_none rfl) rfl (ex_move rfl) ?_
              refine JL_q (wants_none rfl) rfl (ex_move rfl) ?_
              refine JL_bnd fun r121 hr122 => ?_
              refine JL_call (wants_none rfl) rfl Tryd.call8 rfl (Ca_of0 fun w hh => c_laws_eqInt64S _ w (fun _ hk => hk.elim) _ _ (hh.ow0 0 rfl) _ _ rdNil _ hr122) (fun _ => ?_)
              refine JL_q (wants_none rfl) rfl (ex_not rfl) ?_
              refine JL_q (wants_none rfl) rfl (ex_move rfl) ?_
              refine JL_cond (fun h123 => ?_) (fun h123 => ?_)
              · refine JL_passed rfl rfl rfl h123 ?_
                refine JL_passed rfl rfl rfl h123 ?_
                refine JL_passed rfl rfl rfl h123 ?_
                refine JL_q (wants_none rfl) rfl (ex_pick_true rfl h123 rfl) ?_
                refine JL_nil ?_
                refine N_then ?_
                refine J_if_true rfl rfl ?_
                refine J_seq ?_
                refine J_region ?_
                refine JL_q (wants_none rfl) rfl (ex_assign rfl) ?_
                refine JL_nil ?_
                refine N_then ?_
                refine J_ret ?_
                refine N_mid_ret ?_
                refine N_then_ret ?_
                exact N_ret1 rfl (rv_tmp rfl) (fun w hh => ⟨(), rfl, hh.sel [] rfl⟩)
              · refine JL_q (wants_some rfl rfl rfl h123) rfl (ex_move rfl) ?_
                refine JL_q (wants_some rfl rfl rfl h123) rfl (ex_move rfl) ?_
                refine JL_q (wants_some rfl rfl rfl h123) rfl (ex_neq rfl rfl) ?_
                refine JL_q (wants_none rfl) rfl (ex_pick_false rfl h123 rfl) ?_
                refine JL_nil ?_
                refine N_then ?_
                refine J_if rfl (fun h124 => ?_) (fun h124 => ?_)
                · refine J_seq ?_
                  refine J_region ?_
                  refine JL_q (wants_none rfl) rfl (ex_assign rfl) ?_
                  refine JL_nil ?_
                  refine N_then ?_
                  refine J_ret ?_
                  refine N_mid_ret ?_
                  refine N_then_ret ?_
                  exact N_ret1 rfl (rv_tmp rfl) (fun w hh => ⟨(), rfl, hh.sel [] rfl⟩)
                · refine J_skip ?_
                  exact N_meet' () ⟨rfl, rfl, rfl, rfl, rfl, rfl, rfl, rfl, trivial⟩ [3, 1, 0] rfl rfl
            · refine N_then ?_
              refine J_seq ?_
              refine J_seq ?_
              refine J_region ?_
              refine JL_q (wants_none rfl) rfl (ex_move rfl) ?_
              refine JL_q (wants_none rfl) rfl (ex_move rfl) ?_
              refine JL_bnd fun r125 hr126 => ?_
              refine JL_call (wants_none rfl) rfl Tryd.call6 rfl (Ca_self (fun _ => rfl) fun w hh => c_laws_toDominoS _ w (fun _ hk => hk.elim) _ _ (hh.rd0 0 rfl) _ hr126) (fun x127 => ?_)
              obtain ⟨x127_0, x127_1⟩ := x127
              refine JL_bnd fun r128 hr129 => ?_
              refine JL_call (wants_none rfl) rfl Tryd.call9 rfl (Ca_of0 fun w hh => c_laws_eqDominoS _ w (fun _ hk => hk.elim) _ _ (hh.od0 2 rfl) _ _ (hh.od0 0 rfl) _ hr129) (fun _ => ?_)
              refine JL_q (wants_none rfl) rfl (ex_not rfl) ?_
              refine JL_nil ?_
              refine N_then ?_
              refine J_if rfl (fun h130 => ?_) (fun h130 => ?_)
              · refine J_seq ?_
                refine J_region ?_
                refine JL_q (wants_none rfl) rfl (ex_assign rfl) ?_
                refine JL_nil ?_
                refine N_then ?_
                refine J_ret ?_
                refine N_then_ret ?_
                exact N_ret1 rfl (rv_tmp rfl) (fun w hh => ⟨(), rfl, hh.sel [] rfl⟩)
              · refine J_skip ?_
                refine N_then ?_
                refine J_seq ?_
                refine J_region ?_
                refine JL_q (wants_none rfl) rfl (ex_assign rfl) ?_
                refine JL_nil ?_
                refine N_then ?_
                refine J_seq ?_
                refine J_region ?_
                refine JL_q (wants_none rfl) rfl (ex_move rfl) ?_
                refine JL_q (wants_none rfl) rfl (ex_move rfl) ?_
                refine JL_bnd fun r131 hr132 => ?_
                refine JL_ctx (fun w hh => hh.tok 2 rfl) ?_
                refine JL_mark 0 [1, 4] mk_laws_markDominoS (wants_none rfl) rfl Tryd.call10 rfl rfl rfl rfl ((SH.start hA).start_rd rfl hp0) rfl hr132 ?_
                refine JL_q (wants_none rfl) rfl (ex_assign rfl) ?_
                refine JL_nil ?_
                refine N_then ?_
                refine J_seq ?_
                refine J_cut' (S' := Unit) (G' := Unit) (fun _ _ => [(0, v0_), (1, .int .i64 p1), (2, .int .i64 p2), (8, .slice none 0 0), (9, .int .i64 2), (11, x118)]) (fun _ _ => [.rd v0_ p0, .ow 2 x118 r116.1]) ?_ (fun s133 g134 => ?_)
                · refine J_seq ?_
                  refine J_region ?_
                  refine JL_q (wants_none rfl) rfl (ex_move rfl) ?_
                  refine JL_q (wants_none rfl) rfl (ex_lss rfl rfl) ?_
                  refine JL_q (wants_none rfl) rfl (ex_move rfl) ?_
                  refine JL_cond (fun h135 => ?_) (fun h135 => ?_)
                  · refine JL_passed rfl rfl rfl h135 ?_
                    refine JL_passed rfl rfl rfl h135 ?_
                    refine JL_passed rfl rfl rfl h135 ?_
                    refine JL_passed rfl rfl rfl h135 ?_
                    refine JL_q (wants_none rfl) rfl (ex_pick_true rfl h135 rfl) ?_
                    refine JL_q (wants_none rfl) rfl (ex_move rfl) ?_
                    refine JL_passed rfl rfl rfl rfl ?_
                    refine JL_passed rfl rfl rfl rfl ?_
                    refine JL_passed rfl rfl rfl rfl ?_
                    refine JL_q (wants_none rfl) rfl (ex_pick_true rfl rfl rfl) ?_
                    refine JL_nil ?_
                    refine N_then ?_
                    refine J_if_true rfl rfl ?_
                    refine J_seq ?_
                    refine J_region ?_
                    refine JL_q (wants_none rfl) rfl (ex_assign rfl) ?_
                    refine JL_nil ?_
                    refine N_then ?_
                    refine J_ret ?_
                    refine N_mid_ret ?_
                    refine N_then_ret ?_
                    exact N_ret1 rfl (rv_tmp rfl) (fun w hh => ⟨(), rfl, hh.sel [] rfl⟩)
                  · refine JL_q (wants_some rfl rfl rfl h135) rfl (ex_move rfl) ?_
                    refine JL_q (wants_some rfl rfl rfl h135) rfl (ex_move rfl) ?_
                    refine JL_bnd fun r136 hr137 => ?_
                    refine JL_call (wants_some rfl rfl rfl h135) rfl Tryd.call8 rfl (Ca_of0 fun w hh => c_laws_eqInt64S _ w (fun _ hk => hk.elim) _ _ (hh.ow0 4 rfl) _ _ rdNil _ hr137) (fun _ => ?_)
                    refine JL_q (wants_some rfl rfl rfl h135) rfl (ex_not rfl) ?_
                    refine JL_q (wants_none rfl) rfl (ex_pick_false rfl h135 rfl) ?_
                    refine JL_q (wants_none rfl) rfl (ex_move rfl) ?_
                    refine JL_cond (fun h138 => ?_) (fun h138 => ?_)
                    · refine JL_passed rfl rfl rfl h138 ?_
                      refine JL_passed rfl rfl rfl h138 ?_
                      refine JL_passed rfl rfl rfl h138 ?_
                      refine JL_q (wants_none rfl) rfl (ex_pick_true rfl h138 rfl) ?_
                      refine JL_nil ?_
                      refine N_then ?_
                      refine J_if_true rfl rfl ?_
                      refine J_seq ?_
                      refine J_region ?_
                      refine JL_q (wants_none rfl) rfl (ex_assign rfl) ?_
                      refine JL_nil ?_
                      refine N_then ?_
                      refine J_ret ?_
                      refine N_mid_ret ?_
                      refine N_then_ret ?_
                      exact N_ret1 rfl (rv_tmp rfl) (fun w hh => ⟨(), rfl, hh.sel [] rfl⟩)
                    · refine JL_q (wants_some rfl rfl rfl h138) rfl (ex_move rfl) ?_
                      refine JL_q (wants_some rfl rfl rfl h138) rfl (ex_move rfl) ?_
                      refine JL_q (wants_some rfl rfl rfl h138) rfl (ex_neq rfl rfl) ?_
                      refine JL_q (wants_none rfl) rfl (ex_pick_false rfl h138 rfl) ?_
                      refine JL_nil ?_
                      refine N_then ?_
                      refine J_if rfl (fun h139 => ?_) (fun h139 => ?_)
                      · refine J_seq ?_
                        refine J_region ?_
                        refine JL_q (wants_none rfl) rfl (ex_assign rfl) ?_
                        refine JL_nil ?_
                        refine N_then ?_
                        refine J_ret ?_
                        refine N_mid_ret ?_
                        refine N_then_ret ?_
                        exact N_ret1 rfl (rv_tmp rfl) (fun w hh => ⟨(), rfl, hh.sel [] rfl⟩)
                      · refine J_skip ?_
                        exact N_meet' () ⟨rfl, rfl, rfl, rfl, rfl, rfl, trivial⟩ [2, 4] rfl rfl
                · refine N_then ?_
                  refine J_seq ?_
                  refine J_region ?_
                  refine JL_q (wants_none rfl) rfl (ex_assign rfl) ?_
                  refine JL_nil ?_
                  refine N_then ?_
                  refine J_seq ?_
                  refine J_region ?_
                  refine JL_q (wants_none rfl) rfl (ex_move rfl) ?_
                  refine JL_q (wants_none rfl) rfl (ex_move rfl) ?_
                  refine JL_bnd fun r140 hr141 => ?_
                  refine JL_ctx (fun w hh => hh.tokf 1 rfl rfl) ?_
                  refine JL_mark 0 [] mk_laws_markInt64S (wants_none rfl) rfl Tryd.call11 rfl rfl rfl rfl ((SH.start hA).start_rd rfl hp0) rfl hr141 ?_
                  refine JL_q (wants_none rfl) rfl (ex_assign rfl) ?_
                  refine JL_nil ?_
                  refine N_then ?_
                  refine J_seq ?_
                  refine J_region ?_
                  refine JL_q (wants_none rfl) rfl (ex_assign rfl) ?_
                  refine JL_nil ?_
                  refine N_then ?_
                  refine J_seq ?_
                  refine J_region ?_
                  refine JL_q (wants_none rfl) rfl (ex_move rfl) ?_
                  refine JL_q (wants_none rfl) rfl (ex_move rfl) ?_
                  refine JL_bnd fun r142 hr143 => ?_
                  refine JL_call (wants_none rfl) rfl Tryd.call12 rfl (Ca_of0 fun w hh => c_laws_heldInt64S _ w (fun _ hk => hk.elim) _ _ (hh.rd0 0 rfl) _ _ hr143) (fun _ => ?_)
                  refine JL_q (wants_none rfl) rfl (ex_assign rfl) ?_
                  refine JL_nil ?_
                  refine N_then ?_
                  refine J_seq ?_
                  refine J_seq ?_
                  refine J_region ?_
                  refine JL_q (wants_none rfl) rfl (ex_move rfl) ?_
                  refine JL_q (wants_none rfl) rfl (ex_lss rfl rfl) ?_
                  refine JL_nil ?_
                  refine N_then ?_
                  refine J_if rfl (fun h144 => ?_) (fun h144 => ?_)
                  · refine J_seq ?_
                    refine J_region ?_
                    refine JL_q (wants_none rfl) rfl (ex_assign rfl) ?_
                    refine JL_nil ?_
                    refine N_then ?_
                    refine J_ret ?_
                    refine N_then_ret ?_
                    exact N_ret1 rfl (rv_tmp rfl) (fun w hh => ⟨(), rfl, hh.sel [] rfl⟩)
                  · refine J_skip ?_
                    refine N_then ?_
                    refine J_seq ?_
                    refine J_seq ?_
                    refine J_region ?_
                    refine JL_q (wants_none rfl) rfl (ex_move rfl) ?_
                    refine JL_q (wants_none rfl) rfl (ex_move rfl) ?_
                    refine JL_q (wants_none rfl) rfl (ex_neq rfl rfl) ?_
                    refine JL_nil ?_
                    refine N_then ?_
                    refine J_if rfl (fun h145 => ?_) (fun h145 => ?_)
                    · refine J_seq ?_
                      refine J_region ?_
                      refine JL_q (wants_none rfl) rfl (ex_assign rfl) ?_
                      refine JL_nil ?_
                      refine N_then ?_
                      refine J_ret ?_
                      refine N_then_ret ?_
                      exact N_ret1 rfl (rv_tmp rfl) (fun w hh => ⟨(), rfl, hh.sel [] rfl⟩)
                    · refine J_skip ?_
                      refine N_then ?_
                      refine J_seq ?_
                      refine J_region ?_
                      refine JL_q (wants_none rfl) rfl (ex_move rfl) ?_
                      refine JL_bnd fun r146 hr147 => ?_
                      refine JL_call (wants_none rfl) rfl Tryd.call6 rfl (Ca_self (fun _ => rfl) fun w hh => c_laws_toDominoS _ w (fun _ hk => hk.elim) _ _ (hh.rd0 2 rfl) _ hr147) (fun x148 => ?_)
                      obtain ⟨x148_0, x148_1⟩ := x148
                      refine JL_q (wants_none rfl) rfl (ex_move rfl) ?_
                      refine JL_q (wants_none rfl) rfl (ex_move rfl) ?_
                      refine JL_bnd fun r149 hr150 => ?_
                      refine JL_call (wants_none rfl) rfl Tryd.call7 rfl (Ca_self (fun _ => rfl) fun w hh => c_impl_SolveDominoes _ w (fun _ hk => hk.elim) (Stn.of hT_ hh) _ _ (hh.od0 0 rfl) _ _ _ hr150) (fun x151 => ?_)
                      refine JL_q (wants_none rfl) rfl (ex_move rfl) ?_
                      refine JL_q (wants_none rfl) rfl (ex_extract rfl rfl) ?_
                      refine JL_q (wants_none rfl) rfl (ex_extract rfl rfl) ?_
                      refine JL_q (wants_none rfl) rfl (ex_assign rfl) ?_
                      refine JL_q (wants_none rfl) rfl (ex_assign rfl) ?_
                      refine JL_nil ?_
                      refine N_then ?_
                      refine J_seq ?_
                      refine J_seq ?_
                      refine J_region ?_
                      refine JL_q (wants_none rfl) rfl (ex_move rfl) ?_
                      refine JL_q (wants_none rfl) rfl (ex_move rfl) ?_
                      refine JL_bnd fun r152 hr153 => ?_
                      refine JL_call (wants_none rfl) rfl Tryd.call8 rfl (Ca_of0 fun w hh => c_laws_eqInt64S _ w (fun _ hk => hk.elim) _ _ (hh.ow0 0 rfl) _ _ rdNil _ hr153) (fun _ => ?_)
                      refine JL_q (wants_none rfl) rfl (ex_not rfl) ?_
                      refine JL_q (wants_none rfl) rfl (ex_move rfl) ?_
                      refine JL_cond (fun h154 => ?_) (fun h154 => ?_)
                      · refine JL_passed rfl rfl rfl h154 ?_
                        refine JL_passed rfl rfl rfl h154 ?_
                        refine JL_passed rfl rfl rfl h154 ?_
                        refine JL_q (wants_none rfl) rfl (ex_pick_true rfl h154 rfl) ?_
                        refine JL_nil ?_
                        refine N_then ?_
                        refine J_if_true rfl rfl ?_
                        refine J_seq ?_
                        refine J_region ?_
                        refine JL_q (wants_none rfl) rfl (ex_assign rfl) ?_
                        refine JL_nil ?_
                        refine N_then ?_
                        refine J_ret ?_
                        refine N_then_ret ?_
                        exact N_ret1 rfl (rv_tmp rfl) (fun w hh => ⟨(), rfl, hh.sel [] rfl⟩)
                      · refine JL_q (wants_some rfl rfl rfl h154) rfl (ex_move rfl) ?_
                        refine JL_q (wants_some rfl rfl rfl h154) rfl (ex_move rfl) ?_
                        refine JL_q (wants_some rfl rfl rfl h154) rfl (ex_neq rfl rfl) ?_
                        refine JL_q (wants_none rfl) rfl (ex_pick_false rfl h154 rfl) ?_
                        refine JL_nil ?_
                        refine N_then ?_
                        refine J_if rfl (fun h155 => ?_) (fun h155 => ?_)
                        · refine J_seq ?_
                          refine J_region ?_
                          refine JL_q (wants_none rfl) rfl (ex_assign rfl) ?_
                          refine JL_nil ?_
                          refine N_then ?_
                          refine J_ret ?_
                          refine N_then_ret ?_
                          exact N_ret1 rfl (rv_tmp rfl) (fun w hh => ⟨(), rfl, hh.sel [] rfl⟩)
                        · refine J_skip ?_
                          refine N_then ?_
                          refine J_seq ?_
                          refine J_region ?_
                          refine JL_q (wants_none rfl) rfl (ex_assign rfl) ?_
                          refine JL_nil ?_
                          refine N_then ?_
                          refine J_seq ?_
                          refine J_region ?_
                          refine JL_q (wants_none rfl) rfl (ex_move rfl) ?_
                          refine JL_q (wants_none rfl) rfl (ex_move rfl) ?_
                          refine JL_bnd fun r156 hr157 => ?_
                          refine JL_call (wants_none rfl) rfl Tryd.call12 rfl (Ca_of0 fun w hh => c_laws_heldInt64S _ w (fun _ hk => hk.elim) _ _ (hh.rd0 2 rfl) _ _ hr157) (fun _ => ?_)
                          refine JL_q (wants_none rfl) rfl (ex_assign rfl) ?_
                          refine JL_nil ?_
                          refine N_then ?_
                          refine J_seq ?_
                          refine J_seq ?_
                          refine J_region ?_
                          refine JL_q (wants_none rfl) rfl (ex_move rfl) ?_
                          refine JL_q (wants_none rfl) rfl (ex_lss rfl rfl) ?_
                          refine JL_nil ?_
                          refine N_then ?_
                          refine J_if rfl (fun h158 => ?_) (fun h158 => ?_)
                          · refine J_seq ?_
                            refine J_region ?_
                            refine JL_q (wants_none rfl) rfl (ex_assign rfl) ?_
                            refine JL_nil ?_
                            refine N_then ?_
                            refine J_ret ?_
                            refine N_then_ret ?_
                            exact N_ret1 rfl (rv_tmp rfl) (fun w hh => ⟨(), rfl, hh.sel [] rfl⟩)
                          · refine J_skip ?_
                            refine N_then ?_
                            refine J_seq ?_
                            refine J_seq ?_
                            refine J_region ?_
                            refine JL_q (wants_none rfl) rfl (ex_move rfl) ?_
                            refine JL_q (wants_none rfl) rfl (ex_move rfl) ?_
                            refine JL_q (wants_none rfl) rfl (ex_neq rfl rfl) ?_
                            refine JL_nil ?_
                            refine N_then ?_
                            refine J_if rfl (fun h159 => ?_) (fun h159 => ?_)
                            · refine J_seq ?_
                              refine J_region ?_
                              refine JL_q (wants_none rfl) rfl (ex_assign rfl) ?_
                              refine JL_nil ?_
                              refine N_then ?_
                              refine J_ret ?_
                              refine N_then_ret ?_
                              exact N_ret1 rfl (rv_tmp rfl) (fun w hh => ⟨(), rfl, hh.sel [] rfl⟩)
                            · refine J_skip ?_
                              refine N_then ?_
                              refine J_seq ?_
                              refine J_region ?_
                              refine JL_q (wants_none rfl) rfl (ex_assign rfl) ?_
                              refine JL_nil ?_
                              refine N_then ?_
                              refine J_ret ?_
                              exact N_ret1 rfl (rv_tmp rfl) (fun w hh => ⟨(), rfl, hh.sel [] rfl⟩)
          · refine J_skip ?_
            exact N_meet' () ⟨rfl, rfl, rfl, trivial⟩ [0, 1] rfl rfl
      · refine N_then ?_
        refine J_seq ?_
        refine J_region ?_
        refine JL_q (wants_none rfl) rfl (ex_move rfl) ?_
        refine JL_q (wants_none rfl) rfl (ex_move rfl) ?_
        refine JL_q (wants_none rfl) rfl (ex_move rfl) ?_
        refine JL_inline (wants_none rfl) rfl Tryd.call17 rfl Tryd.func17 rfl Tryd.ntmps17 rfl rfl (fun K_ hK160 => ?_)
        refine J_seq ?_
        refine J_region ?_
        refine JL_q (wants_none rfl) rfl (ex_assign rfl) ?_
        refine JL_q (wants_none rfl) rfl (ex_assign rfl) ?_
        refine JL_nil ?_
        refine N_then ?_
        refine J_seq ?_
        refine J_region ?_
        refine JL_q (wants_none rfl) rfl (ex_build si_58 rfl (.cons fi_58_2 rfl rfl (.cons fi_58_3 rfl rfl .nil)) (fun w hh => ⟨cv_int, cv_int, trivial⟩)) ?_
        refine JL_st (wants_none rfl) rfl (st_buildSlice_od (vs := [.agg #[.slice none 0 0, .bool false, .int .i64 (-1), .int .i64 (-1)]]) (B := ([] : List Nat)) ([(⟨([] : (List Int)), false, (-1), (-1)⟩ : Gl32Rest)] : List Gl32Rest) [] Tryd.underlying59 ti_58 zi_58 rfl rfl rfl rfl rfl (fun w hh => (dwv_cons (Gl32Rest.dw dw_nil) dwv_nil))) (fun b161 => ?_)
        refine JL_q (wants_none rfl) rfl (ex_assign rfl) ?_
        refine JL_nil ?_
        refine N_then ?_
        refine J_seq ?_
        refine J_region ?_
        refine JL_q (wants_none rfl) rfl (ex_assign rfl) ?_
        refine JL_nil ?_
        refine N_then ?_
        refine J_seq ?_
        refine J_seq ?_
        refine J_region ?_
        refine JL_q (wants_none rfl) rfl (ex_assign rfl) ?_
        refine JL_nil ?_
        refine N_then ?_
        refine J_ctx (fun w hh => hh.od_ow 0 rfl) ?_
        refine J_loop' (S := (List Gl32Rest) × Bool × Int) (G := Value) (F_laws_FnExactSolveDominoes_L1 p0 p1 p2 r4) (fun s162 g163 => [(0, x6_0), (1, .int .i64 p1), (2, .int .i64 p2), (8, g163), (9, .bool s162.2.1), (10, .int .i64 s162.2.2)]) (fun s162 g163 => [.od 40 x6_0 r4 x6_1, .ow 58 g163 s162.1, .rd v0_ p0]) (([(⟨([] : (List Int)), false, (-1), (-1)⟩ : Gl32Rest)] : List Gl32Rest), true, 0) (.slice (some ⟨b161, 0, none⟩) 1 1) ⟨rfl, rfl, rfl, rfl, rfl, rfl, trivial⟩ [1, 0, 2] rfl rfl (fun s162 g163 => ?_) (fun s162 g163 => ?_)
        · unfold F_laws_FnExactSolveDominoes_L1
          refine J_seq ?_
          refine J_seq ?_
          refine J_region ?_
          refine JL_q (wants_none rfl) rfl (ex_move rfl) ?_
          refine JL_q (wants_none rfl) rfl (ex_move rfl) ?_
          refine JL_q (wants_none rfl) rfl (ex_len_ow 1 Tryd.underlying59 rfl rfl) ?_
          refine JL_q (wants_none rfl) rfl (ex_lss rfl rfl) ?_
          refine JL_nil ?_
          refine N_then ?_
          refine J_if rfl (fun h164 => ?_) (fun h164 => ?_)
          · refine J_skip ?_
            refine N_then ?_
            refine J_seq ?_
            refine J_block ?_
            refine J_seq ?_
            refine J_seq ?_
            refine J_region ?_
            refine JL_q (wants_none rfl) rfl (ex_move rfl) ?_
            refine JL_q (wants_none rfl) rfl (ex_move rfl) ?_
            refine JL_q (wants_none rfl) rfl (ex_eql rfl rfl) ?_
            refine JL_nil ?_
            refine N_then ?_
            refine J_if rfl (fun h165 => ?_) (fun h165 => ?_)
            · refine J_seq ?_
              refine J_region ?_
              refine JL_q (wants_none rfl) rfl (ex_assign rfl) ?_
              refine JL_q (wants_none rfl) rfl (ex_assign rfl) ?_
              refine JL_nil ?_
              refine N_then ?_
              refine J_ret ?_
              refine N_then_ret ?_
              refine N_block_ret ?_
              refine N_then_ret ?_
              refine N_round_reti ?_
              refine N_then_ret ?_
              refine N_inl2 hK160 rfl (rv_tmp rfl) (rv_tmp rfl) ?_
              refine JL_q (wants_none rfl) rfl (ex_extract rfl rfl) ?_
              refine JL_q (wants_none rfl) rfl (ex_extract rfl rfl) ?_
              refine JL_q (wants_none rfl) rfl (ex_assign rfl) ?_
              refine JL_q (wants_none rfl) rfl (ex_assign rfl) ?_
              refine JL_nil ?_
              refine N_then ?_
              refine J_ret ?_
              refine N_inl2 hK7 rfl (rv_tmp rfl) (rv_tmp rfl) ?_
              refine JL_q (wants_none rfl) rfl (ex_move rfl) ?_
              refine JL_q (wants_none rfl) rfl (ex_extract rfl rfl) ?_
              refine JL_q (wants_none rfl) rfl (ex_extract rfl rfl) ?_
              refine JL_q (wants_none rfl) rfl (ex_assign rfl) ?_
              refine JL_q (wants_none rfl) rfl (ex_assign rfl) ?_
              refine JL_nil ?_
              refine N_then ?_
              refine J_seq ?_
              refine J_region ?_
              refine JL_q (wants_none rfl) rfl (ex_move rfl) ?_
              refine JL_bnd fun r166 hr167 => ?_
              refine JL_call (wants_none rfl) rfl Tryd.call6 rfl (Ca_self (fun _ => rfl) fun w hh => c_laws_toDominoS _ w (fun _ hk => hk.elim) _ _ (hh.rd0 2 rfl) _ hr167) (fun x168 => ?_)
              obtain ⟨x168_0, x168_1⟩ := x168
              refine JL_q (wants_none rfl) rfl (ex_assign rfl) ?_
              refine JL_nil ?_
              refine N_then ?_
              refine J_seq ?_
              refine J_region ?_
              refine JL_q (wants_none rfl) rfl (ex_move rfl) ?_
              refine JL_q (wants_none rfl) rfl (ex_move rfl) ?_
              refine JL_q (wants_none rfl) rfl (ex_move rfl) ?_
              refine JL_bnd fun r169 hr170 => ?_
              refine JL_call (wants_none rfl) rfl Tryd.call7 rfl (Ca_self (fun _ => rfl) fun w hh => c_impl_SolveDominoes _ w (fun _ hk => hk.elim) (Stn.of hT_ hh) _ _ (hh.od0 0 rfl) _ _ _ hr170) (fun x171 => ?_)
              refine JL_q (wants_none rfl) rfl (ex_move rfl) ?_
              refine JL_q (wants_none rfl) rfl (ex_extract rfl rfl) ?_
              refine JL_q (wants_none rfl) rfl (ex_extract rfl rfl) ?_
              refine JL_q (wants_none rfl) rfl (ex_assign rfl) ?_
              refine JL_q (wants_none rfl) rfl (ex_assign rfl) ?_
              refine JL_nil ?_
              refine N_then ?_
              refine J_seq ?_
              refine J_cut' (S' := Unit) (G' := Unit) (fun _ _ => [(0, v0_), (1, .int .i64 p1), (2, .int .i64 p2), (8, .slice none 0 0), (9, .int .i64 5), (10, x168_0), (11, x171), (12, .int .i64 r169.2)]) (fun _ _ => [.rd v0_ p0, .od 40 x168_0 r166 x168_1, .ow 2 x171 r169.1]) ?_ (fun s172 g173 => ?_)
              · refine J_seq ?_
                refine J_region ?_
                refine JL_q (wants_none rfl) rfl (ex_move rfl) ?_
                refine JL_q (wants_none rfl) rfl (ex_move rfl) ?_
                refine JL_bnd fun r174 hr175 => ?_
                refine JL_call (wants_none rfl) rfl Tryd.call8 rfl (Ca_of0 fun w hh => c_laws_eqInt64S _ w (fun _ hk => hk.elim) _ _ (hh.ow0 0 rfl) _ _ rdNil _ hr175) (fun _ => ?_)
                refine JL_q (wants_none rfl) rfl (ex_not rfl) ?_
                refine JL_q (wants_none rfl) rfl (ex_move rfl) ?_
                refine JL_cond (fun h176 => ?_) (fun h176 => ?_)
                · refine JL_passed rfl rfl rfl h176 ?_
                  refine JL_passed rfl rfl rfl h176 ?_
                  refine JL_passed rfl rfl rfl h176 ?_
                  refine JL_q (wants_none rfl) rfl (ex_pick_true rfl h176 rfl) ?_
                  refine JL_nil ?_
                  refine N_then ?_
                  refine J_if_true rfl rfl ?_
                  refine J_seq ?_
                  refine J_region ?_
                  refine JL_q (wants_none rfl) rfl (ex_assign rfl) ?_
                  refine JL_nil ?_
                  refine N_then ?_
                  refine J_ret ?_
                  refine N_mid_ret ?_
                  refine N_then_ret ?_
                  exact N_ret1 rfl (rv_tmp rfl) (fun w hh => ⟨(), rfl, hh.sel [] rfl⟩)
                · refine JL_q (wants_some rfl rfl rfl h176) rfl (ex_move rfl) ?_
                  refine JL_q (wants_some rfl rfl rfl h176) rfl (ex_move rfl) ?_
                  refine JL_q (wants_some rfl rfl rfl h176) rfl (ex_neq rfl rfl) ?_
                  refine JL_q (wants_none rfl) rfl (ex_pick_false rfl h176 rfl) ?_
                  refine JL_nil ?_
                  refine N_then ?_
                  refine J_if rfl (fun h177 => ?_) (fun h177 => ?_)
                  · refine J_seq ?_
                    refine J_region ?_
                    refine JL_q (wants_none rfl) rfl (ex_assign rfl) ?_
                    refine JL_nil ?_
                    refine N_then ?_
                    refine J_ret ?_
                    refine N_mid_ret ?_
                    refine N_then_ret ?_
                    exact N_ret1 rfl (rv_tmp rfl) (fun w hh => ⟨(), rfl, hh.sel [] rfl⟩)
                  · refine J_skip ?_
                    exact N_meet' () ⟨rfl, rfl, rfl, rfl, rfl, rfl, rfl, rfl, trivial⟩ [4, 1, 0] rfl rfl
              · refine N_then ?_
                refine J_seq ?_
                refine J_seq ?_
                refine J_region ?_
                refine JL_q (wants_none rfl) rfl (ex_move rfl) ?_
                refine JL_q (wants_none rfl) rfl (ex_move rfl) ?_
                refine JL_bnd fun r178 hr179 => ?_
                refine JL_call (wants_none rfl) rfl Tryd.call6 rfl (Ca_self (fun _ => rfl) fun w hh => c_laws_toDominoS _ w (fun _ hk => hk.elim) _ _ (hh.rd0 0 rfl) _ hr179) (fun x180 => ?_)
                obtain ⟨x180_0, x180_1⟩ := x180
                refine JL_bnd fun r181 hr182 => ?_
                refine JL_call (wants_none rfl) rfl Tryd.call9 rfl (Ca_of0 fun w hh => c_laws_eqDominoS _ w (fun _ hk => hk.elim) _ _ (hh.od0 2 rfl) _ _ (hh.od0 0 rfl) _ hr182) (fun _ => ?_)
                refine JL_q (wants_none rfl) rfl (ex_not rfl) ?_
                refine JL_nil ?_
                refine N_then ?_
                refine J_if rfl (fun h183 => ?_) (fun h183 => ?_)
                · refine J_seq ?_
                  refine J_region ?_
                  refine JL_q (wants_none rfl) rfl (ex_assign rfl) ?_
                  refine JL_nil ?_
                  refine N_then ?_
                  refine J_ret ?_
                  refine N_then_ret ?_
                  exact N_ret1 rfl (rv_tmp rfl) (fun w hh => ⟨(), rfl, hh.sel [] rfl⟩)
                · refine J_skip ?_
                  refine N_then ?_
                  refine J_seq ?_
                  refine J_region ?_
                  refine JL_q (wants_none rfl) rfl (ex_assign rfl) ?_
                  refine JL_nil ?_
                  refine N_then ?_
                  refine J_seq ?_
                  refine J_region ?_
                  refine JL_q (wants_none rfl) rfl (ex_move rfl) ?_
                  refine JL_q (wants_none rfl) rfl (ex_move rfl) ?_
                  refine JL_bnd fun r184 hr185 => ?_
                  refine JL_ctx (fun w hh => hh.tok 2 rfl) ?_
                  refine JL_mark 0 [1, 4] mk_laws_markDominoS (wants_none rfl) rfl Tryd.call10 rfl rfl rfl rfl ((SH.start hA).start_rd rfl hp0) rfl hr185 ?_
                  refine JL_q (wants_none rfl) rfl (ex_assign rfl) ?_
                  refine JL_nil ?_
                  refine N_then ?_
                  refine J_seq ?_
                  refine J_cut' (S' := Unit) (G' := Unit) (fun _ _ => [(0, v0_), (1, .int .i64 p1), (2, .int .i64 p2), (8, .slice none 0 0), (9, .int .i64 5), (11, x171)]) (fun _ _ => [.rd v0_ p0, .ow 2 x171 r169.1]) ?_ (fun s186 g187 => ?_)
                  · refine J_seq ?_
                    refine J_region ?_
                    refine JL_q (wants_none rfl) rfl (ex_move rfl) ?_
                    refine JL_q (wants_none rfl) rfl (ex_lss rfl rfl) ?_
                    refine JL_q (wants_none rfl) rfl (ex_move rfl) ?_
                    refine JL_cond (fun h188 => ?_) (fun h188 => ?_)
                    · refine JL_passed rfl rfl rfl h188 ?_
                      refine JL_passed rfl rfl rfl h188 ?_
                      refine JL_passed rfl rfl rfl h188 ?_
                      refine JL_passed rfl rfl rfl h188 ?_
                      refine JL_q (wants_none rfl) rfl (ex_pick_true rfl h188 rfl) ?_
                      refine JL_q (wants_none rfl) rfl (ex_move rfl) ?_
                      refine JL_passed rfl rfl rfl rfl ?_
                      refine JL_passed rfl rfl rfl rfl ?_
                      refine JL_passed rfl rfl rfl rfl ?_
                      refine JL_q (wants_none rfl) rfl (ex_pick_true rfl rfl rfl) ?_
                      refine JL_nil ?_
                      refine N_then ?_
                      refine J_if_true rfl rfl ?_
                      refine J_seq ?_
                      refine J_region ?_
                      refine JL_q (wants_none rfl) rfl (ex_assign rfl) ?_
                      refine JL_nil ?_
                      refine N_then ?_
                      refine J_ret ?_
                      refine N_mid_ret ?_
                      refine N_then_ret ?_
                      exact N_ret1 rfl (rv_tmp rfl) (fun w hh => ⟨(), rfl, hh.sel [] rfl⟩)
                    · refine JL_q (wants_some rfl rfl rfl h188) rfl (ex_move rfl) ?_
                      refine JL_q (wants_some rfl rfl rfl h188) rfl (ex_move rfl) ?_
                      refine JL_bnd fun r189 hr190 => ?_
                      refine JL_call (wants_some rfl rfl rfl h188) rfl Tryd.call8 rfl (Ca_of0 fun w hh => c_laws_eqInt64S _ w (fun _ hk => hk.elim) _ _ (hh.ow0 4 rfl) _ _ rdNil _ hr190) (fun _ => ?_)
                      refine JL_q (wants_some rfl rfl rfl h188) rfl (ex_not rfl) ?_
                      refine JL_q (wants_none rfl) rfl (ex_pick_false rfl h188 rfl) ?_
                      refine JL_q (wants_none rfl) rfl (ex_move rfl) ?_
                      refine JL_cond (fun h191 => ?_) (fun h191 => ?_)
                      · refine JL_passed rfl rfl rfl h191 ?_
                        refine JL_passed rfl rfl rfl h191 ?_
                        refine JL_passed rfl rfl rfl h191 ?_
                        refine JL_q (wants_none rfl) rfl (ex_pick_true rfl h191 rfl) ?_
                        refine JL_nil ?_
                        refine N_then ?_
                        refine J_if_true rfl rfl ?_
                        refine J_seq ?_
                        refine J_region ?_
                        refine JL_q (wants_none rfl) rfl (ex_assign rfl) ?_
                        refine JL_nil ?_
                        refine N_then ?_
                        refine J_ret ?_
                        refine N_mid_ret ?_
                        refine N_then_ret ?_
                        exact N_ret1 rfl (rv_tmp rfl) (fun w hh => ⟨(), rfl, hh.sel [] rfl⟩)
                      · refine JL_q (wants_some rfl rfl rfl h191) rfl (ex_move rfl) ?_
                        refine JL_q (wants_some rfl rfl rfl h191) rfl (ex_move rfl) ?_
                        refine JL_q (wants_some rfl rfl rfl h191) rfl (ex_neq rfl rfl) ?_
                        refine JL_q (wants_none rfl) rfl (ex_pick_false rfl h191 rfl) ?_
                        refine JL_nil ?_
                        refine N_then ?_
                        refine J_if rfl (fun h192 => ?_) (fun h192 => ?_)
                        · refine J_seq ?_
                          refine J_region ?_
                          refine JL_q (wants_none rfl) rfl (ex_assign rfl) ?_
                          refine JL_nil ?_
                          refine N_then ?_
                          refine J_ret ?_
                          refine N_mid_ret ?_
                          refine N_then_ret ?_
                          exact N_ret1 rfl (rv_tmp rfl) (fun w hh => ⟨(), rfl, hh.sel [] rfl⟩)
                        · refine J_skip ?_
                          exact N_meet' () ⟨rfl, rfl, rfl, rfl, rfl, rfl, trivial⟩ [2, 4] rfl rfl
                  · refine N_then ?_
                    refine J_seq ?_
                    refine J_region ?_
                    refine JL_q (wants_none rfl) rfl (ex_assign rfl) ?_
                    refine JL_nil ?_
                    refine N_then ?_
                    refine J_seq ?_
                    refine J_region ?_
                    refine JL_q (wants_none rfl) rfl (ex_move rfl) ?_
                    refine JL_q (wants_none rfl) rfl (ex_move rfl) ?_
                    refine JL_bnd fun r193 hr194 => ?_
                    refine JL_ctx (fun w hh => hh.tokf 1 rfl rfl) ?_
                    refine JL_mark 0 [] mk_laws_markInt64S (wants_none rfl) rfl Tryd.call11 rfl rfl rfl rfl ((SH.start hA).start_rd rfl hp0) rfl hr194 ?_
                    refine JL_q (wants_none rfl) rfl (ex_assign rfl) ?_
                    refine JL_nil ?_
                    refine N_then ?_
                    refine J_seq ?_
                    refine J_region ?_
                    refine JL_q (wants_none rfl) rfl (ex_assign rfl) ?_
                    refine JL_nil ?_
                    refine N_then ?_
                    refine J_seq ?_
                    refine J_region ?_
                    refine JL_q (wants_none rfl) rfl (ex_move rfl) ?_
                    refine JL_q (wants_none rfl) rfl (ex_move rfl) ?_
                    refine JL_bnd fun r195 hr196 => ?_
                    refine JL_call (wants_none rfl) rfl Tryd.call12 rfl (Ca_of0 fun w hh => c_laws_heldInt64S _ w (fun _ hk => hk.elim) _ _ (hh.rd0 0 rfl) _ _ hr196) (fun _ => ?_)
                    refine JL_q (wants_none rfl) rfl (ex_assign rfl) ?_
                    refine JL_nil ?_
                    refine N_then ?_
                    refine J_seq ?_
                    refine J_seq ?_
                    refine J_region ?_
                    refine JL_q (wants_none rfl) rfl (ex_move rfl) ?_
                    refine JL_q (wants_none rfl) rfl (ex_lss rfl rfl) ?_
                    refine JL_nil ?_
                    refine N_then ?_
                    refine J_if rfl (fun h197 => ?_) (fun h197 => ?_)
                    · refine J_seq ?_
                      refine J_region ?_
                      refine JL_q (wants_none rfl) rfl (ex_assign rfl) ?_
                      refine JL_nil ?_
                      refine N_then ?_
                      refine J_ret ?_
                      refine N_then_ret ?_
                      exact N_ret1 rfl (rv_tmp rfl) (fun w hh => ⟨(), rfl, hh.sel [] rfl⟩)
                    · refine J_skip ?_
                      refine N_then ?_
                      refine J_seq ?_
                      refine J_seq ?_
                      refine J_region ?_
                      refine JL_q (wants_none rfl) rfl (ex_move rfl) ?_
                      refine JL_q (wants_none rfl) rfl (ex_move rfl) ?_
                      refine JL_q (wants_none rfl) rfl (ex_neq rfl rfl) ?_
                      refine JL_nil ?_
                      refine N_then ?_
                      refine J_if rfl (fun h198 => ?_) (fun h198 => ?_)
                      · refine J_seq ?_
                        refine J_region ?_
                        refine JL_q (wants_none rfl) rfl (ex_assign rfl) ?_
                        refine JL_nil ?_
                        refine N_then ?_
                        refine J_ret ?_
                        refine N_then_ret ?_
                        exact N_ret1 rfl (rv_tmp rfl) (fun w hh => ⟨(), rfl, hh.sel [] rfl⟩)
                      · refine J_skip ?_
                        refine N_then ?_
                        refine J_seq ?_
                        refine J_region ?_
                        refine JL_q (wants_none rfl) rfl (ex_move rfl) ?_
                        refine JL_bnd fun r199 hr200 => ?_
                        refine JL_call (wants_none rfl) rfl Tryd.call6 rfl (Ca_self (fun _ => rfl) fun w hh => c_laws_toDominoS _ w (fun _ hk => hk.elim) _ _ (hh.rd0 2 rfl) _ hr200) (fun x201 => ?_)
                        obtain ⟨x201_0, x201_1⟩ := x201
                        refine JL_q (wants_none rfl) rfl (ex_move rfl) ?_
                        refine JL_q (wants_none rfl) rfl (ex_move rfl) ?_
                        refine JL_bnd fun r202 hr203 => ?_
                        refine JL_call (wants_none rfl) rfl Tryd.call7 rfl (Ca_self (fun _ => rfl) fun w hh => c_impl_SolveDominoes _ w (fun _ hk => hk.elim) (Stn.of hT_ hh) _ _ (hh.od0 0 rfl) _ _ _ hr203) (fun x204 => ?_)
                        refine JL_q (wants_none rfl) rfl (ex_move rfl) ?_
                        refine JL_q (wants_none rfl) rfl (ex_extract rfl rfl) ?_
                        refine JL_q (wants_none rfl) rfl (ex_extract rfl rfl) ?_
                        refine JL_q (wants_none rfl) rfl (ex_assign rfl) ?_
                        refine JL_q (wants_none rfl) rfl (ex_assign rfl) ?_
                        refine JL_nil ?_
                        refine N_then ?_
                        refine J_seq ?_
                        refine J_seq ?_
                        refine J_region ?_
                        refine JL_q (wants_none rfl) rfl (ex_move rfl) ?_
                        refine JL_q (wants_none rfl) rfl (ex_move rfl) ?_
                        refine JL_bnd fun r205 hr206 => ?_
                        refine JL_call (wants_none rfl) rfl Tryd.call8 rfl (Ca_of0 fun w hh => c_laws_eqInt64S _ w (fun _ hk => hk.elim) _ _ (hh.ow0 0 rfl) _ _ rdNil _ hr206) (fun _ => ?_)
                        refine JL_q (wants_none rfl) rfl (ex_not rfl) ?_
                        refine JL_q (wants_none rfl) rfl (ex_move rfl) ?_
                        refine JL_cond (fun h207 => ?_) (fun h207 => ?_)
                        · refine JL_passed rfl rfl rfl h207 ?_
                          refine JL_passed rfl rfl rfl h207 ?_
                          refine JL_passed rfl rfl rfl h207 ?_
                          refine JL_q (wants_none rfl) rfl (ex_pick_true rfl h207 rfl) ?_
                          refine JL_nil ?_
                          refine N_then ?_
                          refine J_if_true rfl rfl ?_
                          refine J_seq ?_
                          refine J_region ?_
                          refine JL_q (wants_none rfl) rfl (ex_assign rfl) ?_
                          refine JL_nil ?_
                          refine N_then ?_
                          refine J_ret ?_
                          refine N_then_ret ?_
                          exact N_ret1 rfl (rv_tmp rfl) (fun w hh => ⟨(), rfl, hh.sel [] rfl⟩)
                        · refine JL_q (wants_some rfl rfl rfl h207) rfl (ex_move rfl) ?_
                          refine JL_q (wants_some rfl rfl rfl h207) rfl (ex_move rfl) ?_
                          refine JL_q (wants_some rfl rfl rfl h207) rfl (ex_neq rfl rfl) ?_
                          refine JL_q (wants_none rfl) rfl (ex_pick_false rfl h207 rfl) ?_
                          refine JL_nil ?_
                          refine N_then ?_
                          refine J_if rfl (fun h208 => ?_) (fun h208 => ?_)
                          · refine J_seq ?_
                            refine J_region ?_
                            refine JL_q (wants_none rfl) rfl (ex_assign rfl) ?_
                            refine JL_nil ?_
                            refine N_then ?_
                            refine J_ret ?_
                            refine N_then_ret ?_
                            exact N_ret1 rfl (rv_tmp rfl) (fun w hh => ⟨(), rfl, hh.sel [] rfl⟩)
                          · refine J_skip ?_
                            refine N_then ?_
                            refine J_seq ?_
                            refine J_region ?_
                            refine JL_q (wants_none rfl) rfl (ex_assign rfl) ?_
                            refine JL_nil ?_
                            refine N_then ?_
                            refine J_seq ?_
                            refine J_region ?_
                            refine JL_q (wants_none rfl) rfl (ex_move rfl) ?_
                            refine JL_q (wants_none rfl) rfl (ex_move rfl) ?_
                            refine JL_bnd fun r209 hr210 => ?_
                            refine JL_call (wants_none rfl) rfl Tryd.call12 rfl (Ca_of0 fun w hh => c_laws_heldInt64S _ w (fun _ hk => hk.elim) _ _ (hh.rd0 2 rfl) _ _ hr210) (fun _ => ?_)
                            refine JL_q (wants_none rfl) rfl (ex_assign rfl) ?_
                            refine JL_nil ?_
                            refine N_then ?_
                            refine J_seq ?_
                            refine J_seq ?_
                            refine J_region ?_
                            refine JL_q (wants_none rfl) rfl (ex_move rfl) ?_
                            refine JL_q (wants_none rfl) rfl (ex_lss rfl rfl) ?_
                            refine JL_nil ?_
                            refine N_then ?_
                            refine J_if rfl (fun h211 => ?_) (fun h211 => ?_)
                            · refine J_seq ?_
                              refine J_region ?_
                              refine JL_q (wants_none rfl) rfl (ex_assign rfl) ?_
                              refine JL_nil ?_
                              refine N_then ?_
                              refine J_ret ?_
                              refine N_then_ret ?_
                              exact N_ret1 rfl (rv_tmp rfl) (fun w hh => ⟨(), rfl, hh.sel [] rfl⟩)
                            · refine J_skip ?_
                              refine N_then ?_
                              refine J_seq ?_
                              refine J_seq ?_
                              refine J_region ?_
                              refine JL_q (wants_none rfl) rfl (ex_move rfl) ?_
                              refine JL_q (wants_none rfl) rfl (ex_move rfl) ?_
                              refine JL_q (wants_none rfl) rfl (ex_neq rfl rfl) ?_
                              refine JL_nil ?_
                              refine N_then ?_
                              refine J_if rfl (fun h212 => ?_) (fun h212 => ?_)
                              · refine J_seq ?_
                                refine J_region ?_
                                refine JL_q (wants_none rfl) rfl (ex_assign rfl) ?_
                                refine JL_nil ?_
                                refine N_then ?_
                                refine J_ret ?_
                                refine N_then_ret ?_
                                exact N_ret1 rfl (rv_tmp rfl) (fun w hh => ⟨(), rfl, hh.sel [] rfl⟩)
                              · refine J_skip ?_
                                refine N_then ?_
                                refine J_seq ?_
                                refine J_region ?_
                                refine JL_q (wants_none rfl) rfl (ex_assign rfl) ?_
                                refine JL_nil ?_
                                refine N_then ?_
                                refine J_ret ?_
                                exact N_ret1 rfl (rv_tmp rfl) (fun w hh => ⟨(), rfl, hh.sel [] rfl⟩)
            · refine J_skip ?_
              refine N_then ?_
              refine J_seq ?_
              refine J_region ?_
              refine JL_q (wants_none rfl) rfl (ex_assign rfl) ?_
              refine JL_nil ?_
              refine N_then ?_
              refine J_loop' (S := (List Gl32Rest) × Bool × Int) (G := Value) (F_laws_FnExactSolveDominoes_L2 p0 p1 p2 r4 s162) (fun s213 g214 => [(0, x6_0), (1, .int .i64 p1), (2, .int .i64 p2), (8, g214), (9, .bool s213.2.1), (10, .int .i64 s162.2.2), (11, .int .i64 s213.2.2)]) (fun s213 g214 => [.od 40 x6_0 r4 x6_1, .ow 58 g214 s213.1, .rd v0_ p0]) (s162.1, s162.2.1, 0) g163 ⟨rfl, rfl, rfl, rfl, rfl, rfl, rfl, trivial⟩ [0, 1, 2] rfl rfl (fun s213 g214 => ?_) (fun s213 g214 => ?_)
              · unfold F_laws_FnExactSolveDominoes_L2
                refine J_seq ?_
                refine J_seq ?_
                refine J_region ?_
                refine JL_q (wants_none rfl) rfl (ex_move rfl) ?_
                refine JL_q (wants_none rfl) rfl (ex_move rfl) ?_
                refine JL_q (wants_none rfl) rfl (ex_od 0 rfl (ex_len_ow 0 Tryd.underlying27 rfl rfl)) ?_
                refine JL_q (wants_none rfl) rfl (ex_lss rfl rfl) ?_
                refine JL_nil ?_
                refine N_then ?_
                refine J_if rfl (fun h215 => ?_) (fun h215 => ?_)
                · refine J_skip ?_
                  refine N_then ?_
                  refine J_seq ?_
                  refine J_block ?_
                  refine J_seq ?_
                  refine J_seq ?_
                  refine J_cut' (S' := Bool) (G' := Unit) (fun s216 _ => [(0, x6_0), (1, .int .i64 p1), (2, .int .i64 p2), (8, g214), (9, .bool s213.2.1), (10, .int .i64 s162.2.2), (11, .int .i64 s213.2.2), (41, .bool s216)]) (fun s216 _ => [.od 40 x6_0 r4 x6_1, .ow 58 g214 s213.1, .rd v0_ p0]) ?_ (fun s216 g217 => ?_)
                  · refine J_region ?_
                    refine JL_q (wants_none rfl) rfl (ex_move rfl) ?_
                    refine JL_q (wants_none rfl) rfl (ex_eql rfl rfl) ?_
                    refine JL_q (wants_none rfl) rfl (ex_move rfl) ?_
                    refine JL_cond (fun h218 => ?_) (fun h218 => ?_)
                    · refine JL_q (wants_some rfl rfl rfl h218) rfl (ex_move rfl) ?_
                      refine JL_q (wants_some rfl rfl rfl h218) rfl (ex_geq rfl rfl) ?_
                      refine JL_q (wants_none rfl) rfl (ex_pick_true rfl h218 rfl) ?_
                      refine JL_q (wants_none rfl) rfl (ex_move rfl) ?_
                      refine JL_cond (fun h219 => ?_) (fun h219 => ?_)
                      · refine JL_q (wants_some rfl rfl rfl h219) rfl (ex_move rfl) ?_
                        refine JL_q (wants_some rfl rfl rfl h219) rfl (ex_move rfl) ?_
                        refine JL_q (wants_some rfl rfl rfl h219) rfl (ex_neq rfl rfl) ?_
                        refine JL_q (wants_none rfl) rfl (ex_pick_true rfl h219 rfl) ?_
                        refine JL_nil ?_
                        exact N_meet' () ⟨rfl, rfl, rfl, rfl, rfl, rfl, rfl, rfl, trivial⟩ [0, 1, 2] rfl rfl
                      · refine JL_passed rfl rfl rfl h219 ?_
                        refine JL_passed rfl rfl rfl h219 ?_
                        refine JL_passed rfl rfl rfl h219 ?_
                        refine JL_q (wants_none rfl) rfl (ex_pick_false rfl h219 rfl) ?_
                        refine JL_nil ?_
                        exact N_meet' () ⟨rfl, rfl, rfl, rfl, rfl, rfl, rfl, rfl, trivial⟩ [0, 1, 2] rfl rfl
                    · refine JL_passed rfl rfl rfl h218 ?_
                      refine JL_passed rfl rfl rfl h218 ?_
                      refine JL_q (wants_none rfl) rfl (ex_pick_false rfl h218 rfl) ?_
                      refine JL_q (wants_none rfl) rfl (ex_move rfl) ?_
                      refine JL_passed rfl rfl rfl rfl ?_
                      refine JL_passed rfl rfl rfl rfl ?_
                      refine JL_passed rfl rfl rfl rfl ?_
                      refine JL_q (wants_none rfl) rfl (ex_pick_false rfl rfl rfl) ?_
                      refine JL_nil ?_
                      exact N_meet' () ⟨rfl, rfl, rfl, rfl, rfl, rfl, rfl, rfl, trivial⟩ [0, 1, 2] rfl rfl
                  · refine N_then ?_
                    refine J_if rfl (fun h220 => ?_) (fun h220 => ?_)
                    · refine J_exit ?_
                      refine N_then_exit ?_
                      refine N_block_exit ?_
                      refine N_then ?_
                      refine J_region ?_
                      refine JL_q (wants_none rfl) rfl (ex_move rfl) ?_
                      refine JL_q (wants_none rfl) rfl (ex_add rfl rfl) ?_
                      refine JL_q (wants_none rfl) rfl (ex_assign rfl) ?_
                      refine JL_nil ?_
                      exact N_next' g214 ⟨rfl, rfl, rfl, rfl, rfl, rfl, rfl, trivial⟩ [0, 1, 2] rfl rfl
                    · refine J_skip ?_
                      refine N_then ?_
                      refine J_seq ?_
                      refine J_cut' (S' := (List Int) × Bool × Int × Int × Bool) (G' := Value × Nat) (fun s221 g222 => [(0, x6_0), (1, .int .i64 p1), (2, .int .i64 p2), (8, g214), (9, .bool s213.2.1), (10, .int .i64 s162.2.2), (11, .int .i64 s213.2.2), (12, .pointer (some ⟨g222.2, 0, none⟩)), (13, .bool s221.2.2.2.2)]) (fun s221 g222 => [.od 40 x6_0 r4 x6_1, .ow 58 g214 s213.1, .rd g222.1 s221.1, .bx g222.2 58 [g222.1, .bool s221.2.1, .int .i64 s221.2.2.1, .int .i64 s221.2.2.2.1], .rd v0_ p0]) ?_ (fun s221 g222 => ?_)
                      · refine J_draw [0, 1] (by kernel_rfl) ?_
                        refine JP_take (i := 0) [2] [0, 1] rfl (by kernel_rfl) (by kernel_rfl) (by kernel_rfl) rfl rfl (wants_none rfl) rfl (ex_move rfl) ?_
                        refine JP_take (i := 1) [2] [0, 1] rfl (by kernel_rfl) (by kernel_rfl) (by kernel_rfl) rfl rfl (wants_none rfl) rfl (ex_move rfl) ?_
                        refine JP_bnd fun y223 hy224 => ?_
                        refine JP_ow_open (v := g214) 1 rfl hy224 ?_; rintro b225 cap226 rfl
                        refine JP_take (i := 2) [2] [0, 1] rfl (by kernel_rfl) (by kernel_rfl) (by kernel_rfl) rfl rfl (wants_none rfl) rfl (ex_index_own Tryd.underlying59 ti_58 rfl rfl hy224 (by first | rfl | simp)) ?_
                        refine JP_take (i := 3) [2] [0, 1] rfl (by kernel_rfl) (by kernel_rfl) (by kernel_rfl) rfl rfl (wants_none rfl) rfl (ex_move rfl) ?_
                        refine JP_take (i := 4) [2] [0, 1] rfl (by kernel_rfl) (by kernel_rfl) (by kernel_rfl) rfl rfl (wants_none rfl) rfl (ex_move rfl) ?_
                        refine JP_bnd fun y227 hy228 => ?_
                        refine JP_od_open (v := x6_0) 0 rfl hy228 ?_; rintro b229 cap230 rfl
                        refine JP_take (i := 5) [2] [0, 1] rfl (by kernel_rfl) (by kernel_rfl) (by kernel_rfl) rfl rfl (wants_none rfl) rfl (ex_index_own Tryd.underlying27 ti_40 rfl rfl hy228 (by first | rfl | simp)) ?_
                        refine JP_go [2] [0, 1] rfl rfl rfl (fun w232 h1_233 hp231 => ?_)
                        refine JD_two (i := 6) (j := 10) (by kernel_rfl) ?_ ?_
                        · refine JO_inline h1_233 [0, 1] [] rfl rfl rfl rfl (wants_none rfl) rfl Tryd.call29 rfl Tryd.func29 rfl Tryd.ntmps29 rfl rfl (fun C235 K_ hK234 => ?_)
                          refine J_seq ?_
                          refine J_region ?_
                          refine JL_st (wants_none rfl) rfl (st_alloc zi_58 rfl) (fun b236 => ?_)
                          refine JL_q (wants_none rfl) rfl (ex_assign rfl) ?_
                          refine JL_nil ?_
                          refine N_then ?_
                          refine J_seq ?_
                          refine J_region ?_
                          refine JL_q (wants_none rfl) rfl (ex_move rfl) ?_
                          refine JL_q (wants_none rfl) rfl (ex_nilCheck rfl) ?_
                          refine JL_q (wants_none rfl) rfl (ex_fieldAddr fi_40_0 rfl rfl) ?_
                          refine JL_st (wants_none rfl) rfl (st_od 2 rfl (st_load_ow_part 2 (opens_sl _) (GDomino.at_Top _) rfl ti_24 rfl rfl hy228) (fun _ => rfl)) (fun v237 => ?_)
                          refine JL_bnd fun r238 hr239 => ?_
                          refine JL_call (wants_none rfl) rfl Tryd.call41 rfl (Ca_self (fun _ => rfl) fun w hh => c_spec_l00Own _ w (fun _ hk => hk.elim) _ _ (hh.rd0 0 rfl) _ hr239) (fun x240 => ?_)
                          refine JL_q (wants_none rfl) rfl (ex_assign rfl) ?_
                          refine JL_nil ?_
                          refine N_then ?_
                          refine J_seq ?_
                          refine J_region ?_
                          refine JL_q (wants_none rfl) rfl (ex_move rfl) ?_
                          refine JL_q (wants_none rfl) rfl (ex_nilCheck rfl) ?_
                          refine JL_q (wants_none rfl) rfl (ex_fieldAddr fi_40_1 rfl rfl) ?_
                          refine JL_st (wants_none rfl) rfl (st_od 4 rfl (st_load_ow_part 4 (opens_sl _) (GDomino.at_Bottom _) rfl ti_24 rfl rfl hy228) (fun _ => rfl)) (fun v241 => ?_)
                          refine JL_bnd fun r242 hr243 => ?_
                          refine JL_call (wants_none rfl) rfl Tryd.call41 rfl (Ca_self (fun _ => rfl) fun w hh => c_spec_l00Own _ w (fun _ hk => hk.elim) _ _ (hh.rd0 0 rfl) _ hr243) (fun x244 => ?_)
                          refine JL_q (wants_none rfl) rfl (ex_assign rfl) ?_
                          refine JL_nil ?_
                          refine N_then ?_
                          refine J_seq ?_
                          refine J_cut' (S' := (List Int) × (List Int)) (G' := Value × Value) (fun s245 g246 => [(4, .pointer (some ⟨b236, 0, none⟩)), (6, g246.1), (7, g246.2)]) (fun s245 g246 => [.fz w232 C235, .bx b236 58 [.slice none 0 0, .bool false, .int .i64 0, .int .i64 0], .ow 2 g246.1 s245.1, .ow 2 g246.2 s245.2, .rd v0_ p0, .od 40 (.slice (some ⟨b229, 0, none⟩) r4.length cap230) r4 x6_1, .ow 58 (.slice (some ⟨b225, 0, none⟩) s213.1.length cap226) s213.1]) ?_ (fun s245 g246 => ?_)
                          · refine J_seq ?_
                            refine J_region ?_
                            refine JL_q (wants_none rfl) rfl (ex_move rfl) ?_
                            refine JL_q (wants_none rfl) rfl (ex_nilCheck rfl) ?_
                            refine JL_q (wants_none rfl) rfl (ex_fieldAddr fi_58_1 rfl rfl) ?_
                            refine JL_st (wants_none rfl) rfl (st_load_ow_part 7 (opens_bool _) (Gl32Rest.at_upper _) rfl ti_4 rfl rfl hy224) (fun _ => ?_)
                            refine JL_nil ?_
                            refine N_then ?_
                            refine J_if rfl (fun h248 => ?_) (fun h248 => ?_)
                            · refine J_draw [] (by kernel_rfl) ?_
                              refine JP_take (i := 0) [0, 1, 2, 3, 4, 5, 6, 7, 8] [] rfl (by kernel_rfl) (by kernel_rfl) (by kernel_rfl) rfl rfl (wants_none rfl) rfl (ex_move rfl) ?_
                              refine JP_take (i := 1) [0, 1, 2, 3, 4, 5, 6, 7, 8] [] rfl (by kernel_rfl) (by kernel_rfl) (by kernel_rfl) rfl rfl (wants_none rfl) rfl (ex_nilCheck rfl) ?_
                              refine JP_take (i := 2) [0, 1, 2, 3, 4, 5, 6, 7, 8] [] rfl (by kernel_rfl) (by kernel_rfl) (by kernel_rfl) rfl rfl (wants_none rfl) rfl (ex_fieldAddr fi_58_0 rfl rfl) ?_
                              refine JP_take (i := 5) [0, 1, 2, 3, 4, 5, 6, 7, 8] [] rfl (by kernel_rfl) (by kernel_rfl) (by kernel_rfl) rfl rfl (wants_none rfl) rfl (ex_move rfl) ?_
                              refine JP_take (i := 6) [0, 1, 2, 3, 4, 5, 6, 7, 8] [] rfl (by kernel_rfl) (by kernel_rfl) (by kernel_rfl) rfl rfl (wants_none rfl) rfl (ex_nilCheck rfl) ?_
                              refine JP_take (i := 7) [0, 1, 2, 3, 4, 5, 6, 7, 8] [] rfl (by kernel_rfl) (by kernel_rfl) (by kernel_rfl) rfl rfl (wants_none rfl) rfl (ex_fieldAddr fi_40_0 rfl rfl) ?_
                              refine JP_go [0, 1, 2, 3, 4, 5, 6, 7, 8] [] rfl rfl rfl (fun w250 h1_251 hp249 => ?_)
                              refine JD_two (i := 3) (j := 8) (by kernel_rfl) ?_ ?_
                              · refine JO_st rfl (wants_none rfl) rfl (st_load_ow_part 7 (opens_sl _) (Gl32Rest.at_word _) rfl ti_24 rfl rfl hy224) (fun _ hk => nomatch hk) (fun v252 => ?_)
                                refine JD_bnd fun r253 hr254 => ?_
                                refine JD_two (i := 4) (j := 8) (by kernel_rfl) ?_ ?_
                                · refine JO_call rfl (wants_none rfl) rfl Tryd.call41 rfl (Ca_self (fun _ => rfl) fun w hh => c_spec_l00Own _ w (fun _ hk => hk.elim) _ _ (hh.rd0 0 rfl) _ hr254) (fun x255 => ?_)
                                  refine JD_one (i := 8) (by kernel_rfl) ?_
                                  refine JO_st rfl (wants_none rfl) rfl (st_od 8 rfl (st_load_ow_part 8 (opens_sl _) (GDomino.at_Top _) rfl ti_24 rfl rfl hy228) (fun _ => rfl)) (fun _ hk => nomatch hk) (fun v256 => ?_)
                                  refine JD_bnd fun z257 hz258 => ?_
                                  refine JD_one (i := 9) (by kernel_rfl) ?_
                                  refine JO_st2 1 [] [0, 1, 2, 3, 4, 5, 6, 7, 8] [3, 4, 5, 6, 7, 8, 9, 10, 11] rfl rfl rfl rfl rfl rfl (wants_none rfl) rfl (st_append 1 Tryd.underlying24 ti_2 zi_2 rfl bi_2 rfl rfl rfl rfl (fun w hh => hh.src_rd 0 rfl) hz258) (fun _ hk => hk) (fun v259 => ?_)
                                  refine JD_take (i := 10) hp249 rfl (by kernel_rfl) (by kernel_rfl) (by kernel_rfl) (wants_none rfl) rfl (ex_assign rfl) ?_
                                  refine JD_done (by kernel_rfl) ?_
                                  exact N_meet' (v259, x244) ⟨rfl, rfl, rfl, trivial⟩ [8, 7, 1, 3, 11, 9, 10] rfl rfl
                                · refine JO_st rfl (wants_none rfl) rfl (st_od 7 rfl (st_load_ow_part 7 (opens_sl _) (GDomino.at_Top _) rfl ti_24 rfl rfl hy228) (fun _ => rfl)) (fun _ hk => nomatch hk) (fun v260 => ?_)
                                  refine JD_one (i := 4) (by kernel_rfl) ?_
                                  refine JO_call rfl (wants_none rfl) rfl Tryd.call41 rfl (Ca_self (fun _ => rfl) fun w hh => c_spec_l00Own _ w (fun _ hk => hk.elim) _ _ (hh.rd0 1 rfl) _ hr254) (fun x261 => ?_)
                                  refine JD_bnd fun z262 hz263 => ?_
                                  refine JD_one (i := 9) (by kernel_rfl) ?_
                                  refine JO_st2 0 [] [0, 1, 2, 3, 4, 5, 6, 7, 8] [3, 4, 5, 6, 7, 8, 9, 10, 11] rfl rfl rfl rfl rfl rfl (wants_none rfl) rfl (st_append 0 Tryd.underlying24 ti_2 zi_2 rfl bi_2 rfl rfl rfl rfl (fun w hh => hh.src_rd 1 rfl) hz263) (fun _ hk => hk) (fun v264 => ?_)
                                  refine JD_take (i := 10) hp249 rfl (by kernel_rfl) (by kernel_rfl) (by kernel_rfl) (wants_none rfl) rfl (ex_assign rfl) ?_
                                  refine JD_done (by kernel_rfl) ?_
                                  exact N_meet' (v264, x244) ⟨rfl, rfl, rfl, trivial⟩ [8, 7, 0, 3, 11, 9, 10] rfl rfl
                              · refine JO_st rfl (wants_none rfl) rfl (st_od 6 rfl (st_load_ow_part 6 (opens_sl _) (GDomino.at_Top _) rfl ti_24 rfl rfl hy228) (fun _ => rfl)) (fun _ hk => nomatch hk) (fun v265 => ?_)
                                refine JD_one (i := 3) (by kernel_rfl) ?_
                                refine JO_st rfl (wants_none rfl) rfl (st_load_ow_part 8 (opens_sl _) (Gl32Rest.at_word _) rfl ti_24 rfl rfl hy224) (fun _ hk => nomatch hk) (fun v266 => ?_)
                                refine JD_bnd fun r267 hr268 => ?_
                                refine JD_one (i := 4) (by kernel_rfl) ?_
                                refine JO_call rfl (wants_none rfl) rfl Tryd.call41 rfl (Ca_self (fun _ => rfl) fun w hh => c_spec_l00Own _ w (fun _ hk => hk.elim) _ _ (hh.rd0 0 rfl) _ hr268) (fun x269 => ?_)
                                refine JD_bnd fun z270 hz271 => ?_
                                refine JD_one (i := 9) (by kernel_rfl) ?_
                                refine JO_st2 0 [] [0, 1, 2, 3, 4, 5, 6, 7, 8] [3, 4, 5, 6, 7, 8, 9, 10, 11] rfl rfl rfl rfl rfl rfl (wants_none rfl) rfl (st_append 0 Tryd.underlying24 ti_2 zi_2 rfl bi_2 rfl rfl rfl rfl (fun w hh => hh.src_rd 2 rfl) hz271) (fun _ hk => hk) (fun v272 => ?_)
                                refine JD_take (i := 10) hp249 rfl (by kernel_rfl) (by kernel_rfl) (by kernel_rfl) (wants_none rfl) rfl (ex_assign rfl) ?_
                                refine JD_done (by kernel_rfl) ?_
                                exact N_meet' (v272, x244) ⟨rfl, rfl, rfl, trivial⟩ [8, 7, 0, 3, 11, 9, 10] rfl rfl
                            · refine J_draw [] (by kernel_rfl) ?_
                              refine JP_take (i := 0) [0, 1, 2, 3, 4, 5, 6, 7, 8] [] rfl (by kernel_rfl) (by kernel_rfl) (by kernel_rfl) rfl rfl (wants_none rfl) rfl (ex_move rfl) ?_
                              refine JP_take (i := 1) [0, 1, 2, 3, 4, 5, 6, 7, 8] [] rfl (by kernel_rfl) (by kernel_rfl) (by kernel_rfl) rfl rfl (wants_none rfl) rfl (ex_nilCheck rfl) ?_
                              refine JP_take (i := 2) [0, 1, 2, 3, 4, 5, 6, 7, 8] [] rfl (by kernel_rfl) (by kernel_rfl) (by kernel_rfl) rfl rfl (wants_none rfl) rfl (ex_fieldAddr fi_58_0 rfl rfl) ?_
                              refine JP_take (i := 5) [0, 1, 2, 3, 4, 5, 6, 7, 8] [] rfl (by kernel_rfl) (by kernel_rfl) (by kernel_rfl) rfl rfl (wants_none rfl) rfl (ex_move rfl) ?_
                              refine JP_take (i := 6) [0, 1, 2, 3, 4, 5, 6, 7, 8] [] rfl (by kernel_rfl) (by kernel_rfl) (by kernel_rfl) rfl rfl (wants_none rfl) rfl (ex_nilCheck rfl) ?_
                              refine JP_take (i := 7) [0, 1, 2, 3, 4, 5, 6, 7, 8] [] rfl (by kernel_rfl) (by kernel_rfl) (by kernel_rfl) rfl rfl (wants_none rfl) rfl (ex_fieldAddr fi_40_1 rfl rfl) ?_
                              refine JP_go [0, 1, 2, 3, 4, 5, 6, 7, 8] [] rfl rfl rfl (fun w274 h1_275 hp273 => ?_)
                              refine JD_two (i := 3) (j := 8) (by kernel_rfl) ?_ ?_
                              · refine JO_st rfl (wants_none rfl) rfl (st_load_ow_part 7 (opens_sl _) (Gl32Rest.at_word _) rfl ti_24 rfl rfl hy224) (fun _ hk => nomatch hk) (fun v276 => ?_)
                                refine JD_bnd fun r277 hr278 => ?_
                                refine JD_two (i := 4) (j := 8) (by kernel_rfl) ?_ ?_
                                · refine JO_call rfl (wants_none rfl) rfl Tryd.call41 rfl (Ca_self (fun _ => rfl) fun w hh => c_spec_l00Own _ w (fun _ hk => hk.elim) _ _ (hh.rd0 0 rfl) _ hr278) (fun x279 => ?_)
                                  refine JD_one (i := 8) (by kernel_rfl) ?_
                                  refine JO_st rfl (wants_none rfl) rfl (st_od 8 rfl (st_load_ow_part 8 (opens_sl _) (GDomino.at_Bottom _) rfl ti_24 rfl rfl hy228) (fun _ => rfl)) (fun _ hk => nomatch hk) (fun v280 => ?_)
                                  refine JD_bnd fun z281 hz282 => ?_
                                  refine JD_one (i := 9) (by kernel_rfl) ?_
                                  refine JO_st2 1 [] [0, 1, 2, 3, 4, 5, 6, 7, 8] [3, 4, 5, 6, 7, 8, 9, 10, 11] rfl rfl rfl rfl rfl rfl (wants_none rfl) rfl (st_append 1 Tryd.underlying24 ti_2 zi_2 rfl bi_2 rfl rfl rfl rfl (fun w hh => hh.src_rd 0 rfl) hz282) (fun _ hk => hk) (fun v283 => ?_)
                                  refine JD_take (i := 10) hp273 rfl (by kernel_rfl) (by kernel_rfl) (by kernel_rfl) (wants_none rfl) rfl (ex_assign rfl) ?_
                                  refine JD_done (by kernel_rfl) ?_
                                  exact N_meet' (x240, v283) ⟨rfl, rfl, rfl, trivial⟩ [8, 7, 5, 1, 11, 9, 10] rfl rfl
                                · refine JO_st rfl (wants_none rfl) rfl (st_od 7 rfl (st_load_ow_part 7 (opens_sl _) (GDomino.at_Bottom _) rfl ti_24 rfl rfl hy228) (fun _ => rfl)) (fun _ hk => nomatch hk) (fun v284 => ?_)
                                  refine JD_one (i := 4) (by kernel_rfl) ?_
                                  refine JO_call rfl (wants_none rfl) rfl Tryd.call41 rfl (Ca_self (fun _ => rfl) fun w hh => c_spec_l00Own _ w (fun _ hk => hk.elim) _ _ (hh.rd0 1 rfl) _ hr278) (fun x285 => ?_)
                                  refine JD_bnd fun z286 hz287 => ?_
                                  refine JD_one (i := 9) (by kernel_rfl) ?_
                                  refine JO_st2 0 [] [0, 1, 2, 3, 4, 5, 6, 7, 8] [3, 4, 5, 6, 7, 8, 9, 10, 11] rfl rfl rfl rfl rfl rfl (wants_none rfl) rfl (st_append 0 Tryd.underlying24 ti_2 zi_2 rfl bi_2 rfl rfl rfl rfl (fun w hh => hh.src_rd 1 rfl) hz287) (fun _ hk => hk) (fun v288 => ?_)
                                  refine JD_take (i := 10) hp273 rfl (by kernel_rfl) (by kernel_rfl) (by kernel_rfl) (wants_none rfl) rfl (ex_assign rfl) ?_
                                  refine JD_done (by kernel_rfl) ?_
                                  exact N_meet' (x240, v288) ⟨rfl, rfl, rfl, trivial⟩ [8, 7, 5, 0, 11, 9, 10] rfl rfl
                              · refine JO_st rfl (wants_none rfl) rfl (st_od 6 rfl (st_load_ow_part 6 (opens_sl _) (GDomino.at_Bottom _) rfl ti_24 rfl rfl hy228) (fun _ => rfl)) (fun _ hk => nomatch hk) (fun v289 => ?_)
                                refine JD_one (i := 3) (by kernel_rfl) ?_
                                refine JO_st rfl (wants_none rfl) rfl (st_load_ow_part 8 (opens_sl _) (Gl32Rest.at_word _) rfl ti_24 rfl rfl hy224) (fun _ hk => nomatch hk) (fun v290 => ?_)
                                refine JD_bnd fun r291 hr292 => ?_
                                refine JD_one (i := 4) (by kernel_rfl) ?_
                                refine JO_call rfl (wants_none rfl) rfl Tryd.call41 rfl (Ca_self (fun _ => rfl) fun w hh => c_spec_l00Own _ w (fun _ hk => hk.elim) _ _ (hh.rd0 0 rfl) _ hr292) (fun x293 => ?_)
                                refine JD_bnd fun z294 hz295 => ?_
                                refine JD_one (i := 9) (by kernel_rfl) ?_
                                refine JO_st2 0 [] [0, 1, 2, 3, 4, 5, 6, 7, 8] [3, 4, 5, 6, 7, 8, 9, 10, 11] rfl rfl rfl rfl rfl rfl (wants_none rfl) rfl (st_append 0 Tryd.underlying24 ti_2 zi_2 rfl bi_2 rfl rfl rfl rfl (fun w hh => hh.src_rd 2 rfl) hz295) (fun _ hk => hk) (fun v296 => ?_)
                                refine JD_take (i := 10) hp273 rfl (by kernel_rfl) (by kernel_rfl) (by kernel_rfl) (wants_none rfl) rfl (ex_assign rfl) ?_
                                refine JD_done (by kernel_rfl) ?_
                                exact N_meet' (x240, v296) ⟨rfl, rfl, rfl, trivial⟩ [8, 7, 5, 0, 11, 9, 10] rfl rfl
                          · obtain ⟨g246_0, g246_1⟩ := g246
                            refine N_then ?_
                            refine J_seq ?_
                            refine J_region ?_
                            refine JL_q (wants_none rfl) rfl (ex_move rfl) ?_
                            refine JL_q (wants_none rfl) rfl (ex_len_ow 2 Tryd.underlying24 rfl rfl) ?_
                            refine JL_q (wants_none rfl) rfl (ex_move rfl) ?_
                            refine JL_q (wants_none rfl) rfl (ex_len_ow 3 Tryd.underlying24 rfl rfl) ?_
                            refine JL_bnd fun r297 hr298 => ?_
                            refine JL_call (wants_none rfl) rfl Tryd.call42 rfl (Ca_of0 fun w hh => c_spec_l00Min _ w (fun _ hk => hk.elim) _ _ _ hr298) (fun _ => ?_)
                            refine JL_q (wants_none rfl) rfl (ex_assign rfl) ?_
                            refine JL_nil ?_
                            refine N_then ?_
                            refine J_seq ?_
                            refine J_seq ?_
                            refine J_draw [] (by kernel_rfl) ?_
                            refine JP_take (i := 0) [0, 1, 2, 3, 4, 5, 6] [] rfl (by kernel_rfl) (by kernel_rfl) (by kernel_rfl) rfl rfl (wants_none rfl) rfl (ex_move rfl) ?_
                            refine JP_take (i := 1) [0, 1, 2, 3, 4, 5, 6] [] rfl (by kernel_rfl) (by kernel_rfl) (by kernel_rfl) rfl rfl (wants_none rfl) rfl (ex_move rfl) ?_
                            refine JP_bnd fun z299 hz300 => ?_
                            refine JP_ctx (fun w hh => hh.tokf 2 rfl rfl) ?_
                            refine JP_sq (i := 2) [] rfl (by kernel_rfl) (by kernel_rfl) (by kernel_rfl) rfl (wants_none rfl) rfl (sq_slice 3 Tryd.underlying24 ti_2 rfl rfl rfl rfl hz300) (fun v301 => ?_)
                            refine JP_take (i := 3) [0, 1, 2, 3, 4, 5, 6, 7, 8] [] rfl (by kernel_rfl) (by kernel_rfl) (by kernel_rfl) rfl rfl (wants_none rfl) rfl (ex_move rfl) ?_
                            refine JP_take (i := 4) [0, 1, 2, 3, 4, 5, 6, 7, 8] [] rfl (by kernel_rfl) (by kernel_rfl) (by kernel_rfl) rfl rfl (wants_none rfl) rfl (ex_move rfl) ?_
                            refine JP_bnd fun z302 hz303 => ?_
                            refine JP_ctx (fun w hh => hh.tokf 5 rfl rfl) ?_
                            refine JP_sq (i := 5) [] rfl (by kernel_rfl) (by kernel_rfl) (by kernel_rfl) rfl (wants_none rfl) rfl (sq_slice 6 Tryd.underlying24 ti_2 rfl rfl rfl rfl hz303) (fun v304 => ?_)
                            refine JP_go [0, 1, 2, 3, 4, 5, 6, 7, 8, 9, 10] [] rfl rfl rfl (fun w306 h1_307 hp305 => ?_)
                            refine JD_bnd fun r308 hr309 => ?_
                            refine JD_one (i := 6) (by kernel_rfl) ?_
                            refine JO_call rfl (wants_none rfl) rfl Tryd.call43 rfl (Ca_of0 fun w hh => c_spec_l00Same _ w (fun _ hk => hk.elim) _ _ (hh.rd0 2 rfl) _ _ (hh.rd0 0 rfl) _ hr309) (fun _ => ?_)
                            refine JD_take (i := 7) hp305 rfl (by kernel_rfl) (by kernel_rfl) (by kernel_rfl) (wants_none rfl) rfl (ex_not rfl) ?_
                            refine JD_done (by kernel_rfl) ?_
                            refine N_then ?_
                            refine J_if rfl (fun h310 => ?_) (fun h310 => ?_)
                            · refine J_seq ?_
                              refine J_region ?_
                              refine JL_q (wants_none rfl) rfl (ex_build si_58 rfl .nil (fun w hh => trivial)) ?_
                              refine JL_sk (wants_none rfl) (sk_store_bx' 5 ti_58 rfl rfl (fun w hh => (cv_aggs ⟨cv_slice, cv_bool, cv_int, cv_int, trivial⟩)) rfl rfl rfl rfl) ?_
                              refine JL_q (wants_none rfl) rfl (ex_assign rfl) ?_
                              refine JL_nil ?_
                              refine N_then ?_
                              refine J_ret ?_
                              refine N_then_ret ?_
                              refine N_inlD2 hK234 rfl (rv_cell 5 rfl rfl ti_58 rfl) (rv_tmp rfl) 4 [] rfl rfl ?_
                              refine JD_take (i := 7) hp231 rfl (by kernel_rfl) (by kernel_rfl) (by kernel_rfl) (wants_none rfl) rfl (ex_move rfl) ?_
                              refine JD_take (i := 8) hp231 rfl (by kernel_rfl) (by kernel_rfl) (by kernel_rfl) (wants_none rfl) rfl (ex_extract rfl rfl) ?_
                              refine JD_take (i := 9) hp231 rfl (by kernel_rfl) (by kernel_rfl) (by kernel_rfl) (wants_none rfl) rfl (ex_extract rfl rfl) ?_
                              refine JD_one (i := 10) (by kernel_rfl) ?_
                              refine JO_st rfl (wants_none rfl) rfl (st_alloc zi_58 rfl) (fun _ hk => nomatch hk) (fun b311 => ?_)
                              refine JD_one (i := 11) (by kernel_rfl) ?_
                              refine JO_sk2 0 [0, 1] [2] [9] rfl rfl rfl rfl rfl rfl (wants_none rfl) (sk_store_bx' 0 ti_58 rfl rfl (fun w hh => (cv_aggs ⟨cv_slice, cv_bool, cv_int, cv_int, trivial⟩)) rfl rfl rfl rfl) (fun _ hk => hk) ?_
                              refine JD_take (i := 12) hp231 rfl (by kernel_rfl) (by kernel_rfl) (by kernel_rfl) (wants_none rfl) rfl (ex_assign rfl) ?_
                              refine JD_done (by kernel_rfl) ?_
                              refine N_ctx (fun w hh => hh.cons_rd (rdNil (α := Int))) ?_
                              exact N_meet' ((.slice none 0 0 : Value), b311) ⟨rfl, rfl, rfl, rfl, rfl, rfl, rfl, rfl, rfl, trivial⟩ [11, 12, 0, 1, 10] rfl rfl
                            · refine J_skip ?_
                              refine N_then ?_
                              refine J_seq ?_
                              refine J_seq ?_
                              refine J_region ?_
                              refine JL_q (wants_none rfl) rfl (ex_move rfl) ?_
                              refine JL_q (wants_none rfl) rfl (ex_len_rd 6 Tryd.underlying24 rfl rfl) ?_
                              refine JL_q (wants_none rfl) rfl (ex_move rfl) ?_
                              refine JL_q (wants_none rfl) rfl (ex_gtr rfl rfl) ?_
                              refine JL_nil ?_
                              refine N_then ?_
                              refine J_if rfl (fun h312 => ?_) (fun h312 => ?_)
                              · refine J_seq ?_
                                refine J_region ?_
                                refine JL_q (wants_none rfl) rfl (ex_move rfl) ?_
                                refine JL_q (wants_none rfl) rfl (ex_move rfl) ?_
                                refine JL_bnd fun z313 hz314 => ?_
                                refine JL_st (wants_none rfl) rfl (st_slice 6 Tryd.underlying24 ti_2 rfl rfl rfl rfl hz314) (fun v315 => ?_)
                                refine JL_q (wants_none rfl) rfl (ex_build si_58 rfl (.cons fi_58_0 rfl rfl (.cons fi_58_1 rfl rfl .nil)) (fun w hh => ⟨(hh.cv 0 rfl), cv_bool, trivial⟩)) ?_
                                refine JL_sk (wants_none rfl) (sk_store_bx' 6 ti_58 rfl rfl (fun w hh => (cv_aggs ⟨(hh.cv 0 rfl), cv_bool, cv_int, cv_int, trivial⟩)) rfl rfl rfl rfl) ?_
                                refine JL_q (wants_none rfl) rfl (ex_assign rfl) ?_
                                refine JL_nil ?_
                                refine N_then ?_
                                refine J_ret ?_
                                refine N_then_ret ?_
                                refine N_inlD2 hK234 rfl (rv_cell 6 rfl rfl ti_58 rfl) (rv_tmp rfl) 5 [] rfl rfl ?_
                                refine JD_take (i := 7) hp231 rfl (by kernel_rfl) (by kernel_rfl) (by kernel_rfl) (wants_none rfl) rfl (ex_move rfl) ?_
                                refine JD_take (i := 8) hp231 rfl (by kernel_rfl) (by kernel_rfl) (by kernel_rfl) (wants_none rfl) rfl (ex_extract rfl rfl) ?_
                                refine JD_take (i := 9) hp231 rfl (by kernel_rfl) (by kernel_rfl) (by kernel_rfl) (wants_none rfl) rfl (ex_extract rfl rfl) ?_
                                refine JD_one (i := 10) (by kernel_rfl) ?_
                                refine JO_st rfl (wants_none rfl) rfl (st_alloc zi_58 rfl) (fun _ hk => nomatch hk) (fun b316 => ?_)
                                refine JD_one (i := 11) (by kernel_rfl) ?_
                                refine JO_sk2 0 [0, 1] [2] [10] rfl rfl rfl rfl rfl rfl (wants_none rfl) (sk_store_bx' 0 ti_58 rfl rfl (fun w hh => (cv_aggs ⟨(hh.cv 1 rfl), cv_bool, cv_int, cv_int, trivial⟩)) rfl rfl rfl rfl) (fun _ hk => hk) ?_
                                refine JD_take (i := 12) hp231 rfl (by kernel_rfl) (by kernel_rfl) (by kernel_rfl) (wants_none rfl) rfl (ex_assign rfl) ?_
                                refine JD_done (by kernel_rfl) ?_
                                exact N_meet' (v315, b316) ⟨rfl, rfl, rfl, rfl, rfl, rfl, rfl, rfl, rfl, trivial⟩ [11, 12, 1, 0, 10] rfl rfl
                              · refine J_skip ?_
                                refine N_then ?_
                                refine J_seq ?_
                                refine J_region ?_
                                refine JL_q (wants_none rfl) rfl (ex_move rfl) ?_
                                refine JL_q (wants_none rfl) rfl (ex_move rfl) ?_
                                refine JL_bnd fun z317 hz318 => ?_
                                refine JL_st (wants_none rfl) rfl (st_slice 7 Tryd.underlying24 ti_2 rfl rfl rfl rfl hz318) (fun v319 => ?_)
                                refine JL_q (wants_none rfl) rfl (ex_build si_58 rfl (.cons fi_58_0 rfl rfl .nil) (fun w hh => ⟨(hh.cv 0 rfl), trivial⟩)) ?_
                                refine JL_sk (wants_none rfl) (sk_store_bx' 6 ti_58 rfl rfl (fun w hh => (cv_aggs ⟨(hh.cv 0 rfl), cv_bool, cv_int, cv_int, trivial⟩)) rfl rfl rfl rfl) ?_
                                refine JL_q (wants_none rfl) rfl (ex_assign rfl) ?_
                                refine JL_nil ?_
                                refine N_then ?_
                                refine J_ret ?_
                                refine N_inlD2 hK234 rfl (rv_cell 6 rfl rfl ti_58 rfl) (rv_tmp rfl) 5 [] rfl rfl ?_
                                refine JD_take (i := 7) hp231 rfl (by kernel_rfl) (by kernel_rfl) (by kernel_rfl) (wants_none rfl) rfl (ex_move rfl) ?_
                                refine JD_take (i := 8) hp231 rfl (by kernel_rfl) (by kernel_rfl) (by kernel_rfl) (wants_none rfl) rfl (ex_extract rfl rfl) ?_
                                refine JD_take (i := 9) hp231 rfl (by kernel_rfl) (by kernel_rfl) (by kernel_rfl) (wants_none rfl) rfl (ex_extract rfl rfl) ?_
                                refine JD_one (i := 10) (by kernel_rfl) ?_
                                refine JO_st rfl (wants_none rfl) rfl (st_alloc zi_58 rfl) (fun _ hk => nomatch hk) (fun b320 => ?_)
                                refine JD_one (i := 11) (by kernel_rfl) ?_
                                refine JO_sk2 0 [0, 1] [2] [10] rfl rfl rfl rfl rfl rfl (wants_none rfl) (sk_store_bx' 0 ti_58 rfl rfl (fun w hh => (cv_aggs ⟨(hh.cv 1 rfl), cv_bool, cv_int, cv_int, trivial⟩)) rfl rfl rfl rfl) (fun _ hk => hk) ?_
                                refine JD_take (i := 12) hp231 rfl (by kernel_rfl) (by kernel_rfl) (by kernel_rfl) (wants_none rfl) rfl (ex_assign rfl) ?_
                                refine JD_done (by kernel_rfl) ?_
                                exact N_meet' (v319, b320) ⟨rfl, rfl, rfl, rfl, rfl, rfl, rfl, rfl, rfl, trivial⟩ [11, 12, 1, 0, 10] rfl rfl
                        · refine JO_st rfl (wants_none rfl) rfl (st_alloc zi_58 rfl) (fun _ hk => nomatch hk) (fun b321 => ?_)
                          refine JD_one (i := 6) (by kernel_rfl) ?_
                          refine JO_inline h1_233 [0, 1] [] rfl rfl rfl rfl (wants_none rfl) rfl Tryd.call29 rfl Tryd.func29 rfl Tryd.ntmps29 rfl rfl (fun C323 K_ hK322 => ?_)
                          refine J_seq ?_
                          refine J_region ?_
                          refine JL_st (wants_none rfl) rfl (st_alloc zi_58 rfl) (fun b324 => ?_)
                          refine JL_q (wants_none rfl) rfl (ex_assign rfl) ?_
                          refine JL_nil ?_
                          refine N_then ?_
                          refine J_seq ?_
                          refine J_region ?_
                          refine JL_q (wants_none rfl) rfl (ex_move rfl) ?_
                          refine JL_q (wants_none rfl) rfl (ex_nilCheck rfl) ?_
                          refine JL_q (wants_none rfl) rfl (ex_fieldAddr fi_40_0 rfl rfl) ?_
                          refine JL_st (wants_none rfl) rfl (st_od 3 rfl (st_load_ow_part 3 (opens_sl _) (GDomino.at_Top _) rfl ti_24 rfl rfl hy228) (fun _ => rfl)) (fun v325 => ?_)
                          refine JL_bnd fun r326 hr327 => ?_
                          refine JL_call (wants_none rfl) rfl Tryd.call41 rfl (Ca_self (fun _ => rfl) fun w hh => c_spec_l00Own _ w (fun _ hk => hk.elim) _ _ (hh.rd0 0 rfl) _ hr327) (fun x328 => ?_)
                          refine JL_q (wants_none rfl) rfl (ex_assign rfl) ?_
                          refine JL_nil ?_
                          refine N_then ?_
                          refine J_seq ?_
                          refine J_region ?_
                          refine JL_q (wants_none rfl) rfl (ex_move rfl) ?_
                          refine JL_q (wants_none rfl) rfl (ex_nilCheck rfl) ?_
                          refine JL_q (wants_none rfl) rfl (ex_fieldAddr fi_40_1 rfl rfl) ?_
                          refine JL_st (wants_none rfl) rfl (st_od 5 rfl (st_load_ow_part 5 (opens_sl _) (GDomino.at_Bottom _) rfl ti_24 rfl rfl hy228) (fun _ => rfl)) (fun v329 => ?_)
                          refine JL_bnd fun r330 hr331 => ?_
                          refine JL_call (wants_none rfl) rfl Tryd.call41 rfl (Ca_self (fun _ => rfl) fun w hh => c_spec_l00Own _ w (fun _ hk => hk.elim) _ _ (hh.rd0 0 rfl) _ hr331) (fun x332 => ?_)
                          refine JL_q (wants_none rfl) rfl (ex_assign rfl) ?_
                          refine JL_nil ?_
                          refine N_then ?_
                          refine J_seq ?_
                          refine J_cut' (S' := (List Int) × (List Int)) (G' := Value × Value) (fun s333 g334 => [(4, .pointer (some ⟨b324, 0, none⟩)), (6, g334.1), (7, g334.2)]) (fun s333 g334 => [.fz w232 C323, .bx b324 58 [.slice none 0 0, .bool false, .int .i64 0, .int .i64 0], .ow 2 g334.1 s333.1, .ow 2 g334.2 s333.2, .rd v0_ p0, .od 40 (.slice (some ⟨b229, 0, none⟩) r4.length cap230) r4 x6_1, .ow 58 (.slice (some ⟨b225, 0, none⟩) s213.1.length cap226) s213.1, .bx b321 58 [.slice none 0 0, .bool false, .int .i64 0, .int .i64 0]]) ?_ (fun s333 g334 => ?_)
                          · refine J_seq ?_
                            refine J_region ?_
                            refine JL_q (wants_none rfl) rfl (ex_move rfl) ?_
                            refine JL_q (wants_none rfl) rfl (ex_nilCheck rfl) ?_
                            refine JL_q (wants_none rfl) rfl (ex_fieldAddr fi_58_1 rfl rfl) ?_
                            refine JL_st (wants_none rfl) rfl (st_load_ow_part 8 (opens_bool _) (Gl32Rest.at_upper _) rfl ti_4 rfl rfl hy224) (fun _ => ?_)
                            refine JL_nil ?_
                            refine N_then ?_
                            refine J_if rfl (fun h336 => ?_) (fun h336 => ?_)
                            · refine J_draw [] (by kernel_rfl) ?_
                              refine JP_take (i := 0) [0, 1, 2, 3, 4, 5, 6, 7, 8, 9] [] rfl (by kernel_rfl) (by kernel_rfl) (by kernel_rfl) rfl rfl (wants_none rfl) rfl (ex_move rfl) ?_
                              refine JP_take (i := 1) [0, 1, 2, 3, 4, 5, 6, 7, 8, 9] [] rfl (by kernel_rfl) (by kernel_rfl) (by kernel_rfl) rfl rfl (wants_none rfl) rfl (ex_nilCheck rfl) ?_
                              refine JP_take (i := 2) [0, 1, 2, 3, 4, 5, 6, 7, 8, 9] [] rfl (by kernel_rfl) (by kernel_rfl) (by kernel_rfl) rfl rfl (wants_none rfl) rfl (ex_fieldAddr fi_58_0 rfl rfl) ?_
                              refine JP_take (i := 5) [0, 1, 2, 3, 4, 5, 6, 7, 8, 9] [] rfl (by kernel_rfl) (by kernel_rfl) (by kernel_rfl) rfl rfl (wants_none rfl) rfl (ex_move rfl) ?_
                              refine JP_take (i := 6) [0, 1, 2, 3, 4, 5, 6, 7, 8, 9] [] rfl (by kernel_rfl) (by kernel_rfl) (by kernel_rfl) rfl rfl (wants_none rfl) rfl (ex_nilCheck rfl) ?_
                              refine JP_take (i := 7) [0, 1, 2, 3, 4, 5, 6, 7, 8, 9] [] rfl (by kernel_rfl) (by kernel_rfl) (by kernel_rfl) rfl rfl (wants_none rfl) rfl (ex_fieldAddr fi_40_0 rfl rfl) ?_
                              refine JP_go [0, 1, 2, 3, 4, 5, 6, 7, 8, 9] [] rfl rfl rfl (fun w338 h1_339 hp337 => ?_)
                              refine JD_two (i := 3) (j := 8) (by kernel_rfl) ?_ ?_
                              · refine JO_st rfl (wants_none rfl) rfl (st_load_ow_part 8 (opens_sl _) (Gl32Rest.at_word _) rfl ti_24 rfl rfl hy224) (fun _ hk => nomatch hk) (fun v340 => ?_)
                                refine JD_bnd fun r341 hr342 => ?_
                                refine JD_two (i := 4) (j := 8) (by kernel_rfl) ?_ ?_
                                · refine JO_call rfl (wants_none rfl) rfl Tryd.call41 rfl (Ca_self (fun _ => rfl) fun w hh => c_spec_l00Own _ w (fun _ hk => hk.elim) _ _ (hh.rd0 0 rfl) _ hr342) (fun x343 => ?_)
                                  refine JD_one (i := 8) (by kernel_rfl) ?_
                                  refine JO_st rfl (wants_none rfl) rfl (st_od 9 rfl (st_load_ow_part 9 (opens_sl _) (GDomino.at_Top _) rfl ti_24 rfl rfl hy228) (fun _ => rfl)) (fun _ hk => nomatch hk) (fun v344 => ?_)
                                  refine JD_bnd fun z345 hz346 => ?_
                                  refine JD_one (i := 9) (by kernel_rfl) ?_
                                  refine JO_st2 1 [] [0, 1, 2, 3, 4, 5, 6, 7, 8, 9] [3, 4, 5, 6, 7, 8, 9, 10, 11, 12] rfl rfl rfl rfl rfl rfl (wants_none rfl) rfl (st_append 1 Tryd.underlying24 ti_2 zi_2 rfl bi_2 rfl rfl rfl rfl (fun w hh => hh.src_rd 0 rfl) hz346) (fun _ hk => hk) (fun v347 => ?_)
                                  refine JD_take (i := 10) hp337 rfl (by kernel_rfl) (by kernel_rfl) (by kernel_rfl) (wants_none rfl) rfl (ex_assign rfl) ?_
                                  refine JD_done (by kernel_rfl) ?_
                                  exact N_meet' (v347, x332) ⟨rfl, rfl, rfl, trivial⟩ [8, 7, 1, 3, 12, 10, 11, 9] rfl rfl
                                · refine JO_st rfl (wants_none rfl) rfl (st_od 8 rfl (st_load_ow_part 8 (opens_sl _) (GDomino.at_Top _) rfl ti_24 rfl rfl hy228) (fun _ => rfl)) (fun _ hk => nomatch hk) (fun v348 => ?_)
                                  refine JD_one (i := 4) (by kernel_rfl) ?_
                                  refine JO_call rfl (wants_none rfl) rfl Tryd.call41 rfl (Ca_self (fun _ => rfl) fun w hh => c_spec_l00Own _ w (fun _ hk => hk.elim) _ _ (hh.rd0 1 rfl) _ hr342) (fun x349 => ?_)
                                  refine JD_bnd fun z350 hz351 => ?_
                                  refine JD_one (i := 9) (by kernel_rfl) ?_
                                  refine JO_st2 0 [] [0, 1, 2, 3, 4, 5, 6, 7, 8, 9] [3, 4, 5, 6, 7, 8, 9, 10, 11, 12] rfl rfl rfl rfl rfl rfl (wants_none rfl) rfl (st_append 0 Tryd.underlying24 ti_2 zi_2 rfl bi_2 rfl rfl rfl rfl (fun w hh => hh.src_rd 1 rfl) hz351) (fun _ hk => hk) (fun v352 => ?_)
                                  refine JD_take (i := 10) hp337 rfl (by kernel_rfl) (by kernel_rfl) (by kernel_rfl) (wants_none rfl) rfl (ex_assign rfl) ?_
                                  refine JD_done (by kernel_rfl) ?_
                                  exact N_meet' (v352, x332) ⟨rfl, rfl, rfl, trivial⟩ [8, 7, 0, 3, 12, 10, 11, 9] rfl rfl
                              · refine JO_st rfl (wants_none rfl) rfl (st_od 7 rfl (st_load_ow_part 7 (opens_sl _) (GDomino.at_Top _) rfl ti_24 rfl rfl hy228) (fun _ => rfl)) (fun _ hk => nomatch hk) (fun v353 => ?_)
                                refine JD_one (i := 3) (by kernel_rfl) ?_
                                refine JO_st rfl (wants_none rfl) rfl (st_load_ow_part 9 (opens_sl _) (Gl32Rest.at_word _) rfl ti_24 rfl rfl hy224) (fun _ hk => nomatch hk) (fun v354 => ?_)
                                refine JD_bnd fun r355 hr356 => ?_
                                refine JD_one (i := 4) (by kernel_rfl) ?_
                                refine JO_call rfl (wants_none rfl) rfl Tryd.call41 rfl (Ca_self (fun _ => rfl) fun w hh => c_spec_l00Own _ w (fun _ hk => hk.elim) _ _ (hh.rd0 0 rfl) _ hr356) (fun x357 => ?_)
                                refine JD_bnd fun z358 hz359 => ?_
                                refine JD_one (i := 9) (by kernel_rfl) ?_
                                refine JO_st2 0 [] [0, 1, 2, 3, 4, 5, 6, 7, 8, 9] [3, 4, 5, 6, 7, 8, 9, 10, 11, 12] rfl rfl rfl rfl rfl rfl (wants_none rfl) rfl (st_append 0 Tryd.underlying24 ti_2 zi_2 rfl bi_2 rfl rfl rfl rfl (fun w hh => hh.src_rd 2 rfl) hz359) (fun _ hk => hk) (fun v360 => ?_)
                                refine JD_take (i := 10) hp337 rfl (by kernel_rfl) (by kernel_rfl) (by kernel_rfl) (wants_none rfl) rfl (ex_assign rfl) ?_
                                refine JD_done (by kernel_rfl) ?_
                                exact N_meet' (v360, x332) ⟨rfl, rfl, rfl, trivial⟩ [8, 7, 0, 3, 12, 10, 11, 9] rfl rfl
                            · refine J_draw [] (by kernel_rfl) ?_
                              refine JP_take (i := 0) [0, 1, 2, 3, 4, 5, 6, 7, 8, 9] [] rfl (by kernel_rfl) (by kernel_rfl) (by kernel_rfl) rfl rfl (wants_none rfl) rfl (ex_move rfl) ?_
                              refine JP_take (i := 1) [0, 1, 2, 3, 4, 5, 6, 7, 8, 9] [] rfl (by kernel_rfl) (by kernel_rfl) (by kernel_rfl) rfl rfl (wants_none rfl) rfl (ex_nilCheck rfl) ?_
                              refine JP_take (i := 2) [0, 1, 2, 3, 4, 5, 6, 7, 8, 9] [] rfl (by kernel_rfl) (by kernel_rfl) (by kernel_rfl) rfl rfl (wants_none rfl) rfl (ex_fieldAddr fi_58_0 rfl rfl) ?_
                              refine JP_take (i := 5) [0, 1, 2, 3, 4, 5, 6, 7, 8, 9] [] rfl (by kernel_rfl) (by kernel_rfl) (by kernel_rfl) rfl rfl (wants_none rfl) rfl (ex_move rfl) ?_
                              refine JP_take (i := 6) [0, 1, 2, 3, 4, 5, 6, 7, 8, 9] [] rfl (by kernel_rfl) (by kernel_rfl) (by kernel_rfl) rfl rfl (wants_none rfl) rfl (ex_nilCheck rfl) ?_
                              refine JP_take (i := 7) [0, 1, 2, 3, 4, 5, 6, 7, 8, 9] [] rfl (by kernel_rfl) (by kernel_rfl) (by kernel_rfl) rfl rfl (wants_none rfl) rfl (ex_fieldAddr fi_40_1 rfl rfl) ?_
                              refine JP_go [0, 1, 2, 3, 4, 5, 6, 7, 8, 9] [] rfl rfl rfl (fun w362 h1_363 hp361 => ?_)
                              refine JD_two (i := 3) (j := 8) (by kernel_rfl) ?_ ?_
                              · refine JO_st rfl (wants_none rfl) rfl (st_load_ow_part 8 (opens_sl _) (Gl32Rest.at_word _) rfl ti_24 rfl rfl hy224) (fun _ hk => nomatch hk) (fun v364 => ?_)
                                refine JD_bnd fun r365 hr366 => ?_
                                refine JD_two (i := 4) (j := 8) (by kernel_rfl) ?_ ?_
                                · refine JO_call rfl (wants_none rfl) rfl Tryd.call41 rfl (Ca_self (fun _ => rfl) fun w hh => c_spec_l00Own _ w (fun _ hk => hk.elim) _ _ (hh.rd0 0 rfl) _ hr366) (fun x367 => ?_)
                                  refine JD_one (i := 8) (by kernel_rfl) ?_
                                  refine JO_st rfl (wants_none rfl) rfl (st_od 9 rfl (st_load_ow_part 9 (opens_sl _) (GDomino.at_Bottom _) rfl ti_24 rfl rfl hy228) (fun _ => rfl)) (fun _ hk => nomatch hk) (fun v368 => ?_)
                                  refine JD_bnd fun z369 hz370 => ?_
                                  refine JD_one (i := 9) (by kernel_rfl) ?_
                                  refine JO_st2 1 [] [0, 1, 2, 3, 4, 5, 6, 7, 8, 9] [3, 4, 5, 6, 7, 8, 9, 10, 11, 12] rfl rfl rfl rfl rfl rfl (wants_none rfl) rfl (st_append 1 Tryd.underlying24 ti_2 zi_2 rfl bi_2 rfl rfl rfl rfl (fun w hh => hh.src_rd 0 rfl) hz370) (fun _ hk => hk) (fun v371 => ?_)
                                  refine JD_take (i := 10) hp361 rfl (by kernel_rfl) (by kernel_rfl) (by kernel_rfl) (wants_none rfl) rfl (ex_assign rfl) ?_
                                  refine JD_done (by kernel_rfl) ?_
                                  exact N_meet' (x328, v371) ⟨rfl, rfl, rfl, trivial⟩ [8, 7, 5, 1, 12, 10, 11, 9] rfl rfl
                                · refine JO_st rfl (wants_none rfl) rfl (st_od 8 rfl (st_load_ow_part 8 (opens_sl _) (GDomino.at_Bottom _) rfl ti_24 rfl rfl hy228) (fun _ => rfl)) (fun _ hk => nomatch hk) (fun v372 => ?_)
                                  refine JD_one (i := 4) (by kernel_rfl) ?_
                                  refine JO_call rfl (wants_none rfl) rfl Tryd.call41 rfl (Ca_self (fun _ => rfl) fun w hh => c_spec_l00Own _ w (fun _ hk => hk.elim) _ _ (hh.rd0 1 rfl) _ hr366) (fun x373 => ?_)
                                  refine JD_bnd fun z374 hz375 => ?_
                                  refine JD_one (i := 9) (by kernel_rfl) ?_
                                  refine JO_st2 0 [] [0, 1, 2, 3, 4, 5, 6, 7, 8, 9] [3, 4, 5, 6, 7, 8, 9, 10, 11, 12] rfl rfl rfl rfl rfl rfl (wants_none rfl) rfl (st_append 0 Tryd.underlying24 ti_2 zi_2 rfl bi_2 rfl rfl rfl rfl (fun w hh => hh.src_rd 1 rfl) hz375) (fun _ hk => hk) (fun v376 => ?_)
                                  refine JD_take (i := 10) hp361 rfl (by kernel_rfl) (by kernel_rfl) (by kernel_rfl) (wants_none rfl) rfl (ex_assign rfl) ?_
                                  refine JD_done (by kernel_rfl) ?_
                                  exact N_meet' (x328, v376) ⟨rfl, rfl, rfl, trivial⟩ [8, 7, 5, 0, 12, 10, 11, 9] rfl rfl
                              · refine JO_st rfl (wants_none rfl) rfl (st_od 7 rfl (st_load_ow_part 7 (opens_sl _) (GDomino.at_Bottom _) rfl ti_24 rfl rfl hy228) (fun _ => rfl)) (fun _ hk => nomatch hk) (fun v377 => ?_)
                                refine JD_one (i := 3) (by kernel_rfl) ?_
                                refine JO_st rfl (wants_none rfl) rfl (st_load_ow_part 9 (opens_sl _) (Gl32Rest.at_word _) rfl ti_24 rfl rfl hy224) (fun _ hk => nomatch hk) (fun v378 => ?_)
                                refine JD_bnd fun r379 hr380 => ?_
                                refine JD_one (i := 4) (by kernel_rfl) ?_
                                refine JO_call rfl (wants_none rfl) rfl Tryd.call41 rfl (Ca_self (fun _ => rfl) fun w hh => c_spec_l00Own _ w (fun _ hk => hk.elim) _ _ (hh.rd0 0 rfl) _ hr380) (fun x381 => ?_)
                                refine JD_bnd fun z382 hz383 => ?_
                                refine JD_one (i := 9) (by kernel_rfl) ?_
                                refine JO_st2 0 [] [0, 1, 2, 3, 4, 5, 6, 7, 8, 9] [3, 4, 5, 6, 7, 8, 9, 10, 11, 12] rfl rfl rfl rfl rfl rfl (wants_none rfl) rfl (st_append 0 Tryd.underlying24 ti_2 zi_2 rfl bi_2 rfl rfl rfl rfl (fun w hh => hh.src_rd 2 rfl) hz383) (fun _ hk => hk) (fun v384 => ?_)
                                refine JD_take (i := 10) hp361 rfl (by kernel_rfl) (by kernel_rfl) (by kernel_rfl) (wants_none rfl) rfl (ex_assign rfl) ?_
                                refine JD_done (by kernel_rfl) ?_
                                exact N_meet' (x328, v384) ⟨rfl, rfl, rfl, trivial⟩ [8, 7, 5, 0, 12, 10, 11, 9] rfl rfl
                          · obtain ⟨g334_0, g334_1⟩ := g334
                            refine N_then ?_
                            refine J_seq ?_
                            refine J_region ?_
                            refine JL_q (wants_none rfl) rfl (ex_move rfl) ?_
                            refine JL_q (wants_none rfl) rfl (ex_len_ow 2 Tryd.underlying24 rfl rfl) ?_
                            refine JL_q (wants_none rfl) rfl (ex_move rfl) ?_
                            refine JL_q (wants_none rfl) rfl (ex_len_ow 3 Tryd.underlying24 rfl rfl) ?_
                            refine JL_bnd fun r385 hr386 => ?_
                            refine JL_call (wants_none rfl) rfl Tryd.call42 rfl (Ca_of0 fun w hh => c_spec_l00Min _ w (fun _ hk => hk.elim) _ _ _ hr386) (fun _ => ?_)
                            refine JL_q (wants_none rfl) rfl (ex_assign rfl) ?_
                            refine JL_nil ?_
                            refine N_then ?_
                            refine J_seq ?_
                            refine J_seq ?_
                            refine J_draw [] (by kernel_rfl) ?_
                            refine JP_take (i := 0) [0, 1, 2, 3, 4, 5, 6, 7] [] rfl (by kernel_rfl) (by kernel_rfl) (by kernel_rfl) rfl rfl (wants_none rfl) rfl (ex_move rfl) ?_
                            refine JP_take (i := 1) [0, 1, 2, 3, 4, 5, 6, 7] [] rfl (by kernel_rfl) (by kernel_rfl) (by kernel_rfl) rfl rfl (wants_none rfl) rfl (ex_move rfl) ?_
                            refine JP_bnd fun z387 hz388 => ?_
                            refine JP_ctx (fun w hh => hh.tokf 2 rfl rfl) ?_
                            refine JP_sq (i := 2) [] rfl (by kernel_rfl) (by kernel_rfl) (by kernel_rfl) rfl (wants_none rfl) rfl (sq_slice 3 Tryd.underlying24 ti_2 rfl rfl rfl rfl hz388) (fun v389 => ?_)
                            refine JP_take (i := 3) [0, 1, 2, 3, 4, 5, 6, 7, 8, 9] [] rfl (by kernel_rfl) (by kernel_rfl) (by kernel_rfl) rfl rfl (wants_none rfl) rfl (ex_move rfl) ?_
                            refine JP_take (i := 4) [0, 1, 2, 3, 4, 5, 6, 7, 8, 9] [] rfl (by kernel_rfl) (by kernel_rfl) (by kernel_rfl) rfl rfl (wants_none rfl) rfl (ex_move rfl) ?_
                            refine JP_bnd fun z390 hz391 => ?_
                            refine JP_ctx (fun w hh => hh.tokf 5 rfl rfl) ?_
                            refine JP_sq (i := 5) [] rfl (by kernel_rfl) (by kernel_rfl) (by kernel_rfl) rfl (wants_none rfl) rfl (sq_slice 6 Tryd.underlying24 ti_2 rfl rfl rfl rfl hz391) (fun v392 => ?_)
                            refine JP_go [0, 1, 2, 3, 4, 5, 6, 7, 8, 9, 10, 11] [] rfl rfl rfl (fun w394 h1_395 hp393 => ?_)
                            refine JD_bnd fun r396 hr397 => ?_
                            refine JD_one (i := 6) (by kernel_rfl) ?_
                            refine JO_call rfl (wants_none rfl) rfl Tryd.call43 rfl (Ca_of0 fun w hh => c_spec_l00Same _ w (fun _ hk => hk.elim) _ _ (hh.rd0 2 rfl) _ _ (hh.rd0 0 rfl) _ hr397) (fun _ => ?_)
                            refine JD_take (i := 7) hp393 rfl (by kernel_rfl) (by kernel_rfl) (by kernel_rfl) (wants_none rfl) rfl (ex_not rfl) ?_
                            refine JD_done (by kernel_rfl) ?_
                            refine N_then ?_
                            refine J_if rfl (fun h398 => ?_) (fun h398 => ?_)
                            · refine J_seq ?_
                              refine J_region ?_
                              refine JL_q (wants_none rfl) rfl (ex_build si_58 rfl .nil (fun w hh => trivial)) ?_
                              refine JL_sk (wants_none rfl) (sk_store_bx' 5 ti_58 rfl rfl (fun w hh => (cv_aggs ⟨cv_slice, cv_bool, cv_int, cv_int, trivial⟩)) rfl rfl rfl rfl) ?_
                              refine JL_q (wants_none rfl) rfl (ex_assign rfl) ?_
                              refine JL_nil ?_
                              refine N_then ?_
                              refine J_ret ?_
                              refine N_then_ret ?_
                              refine N_inlD2 hK322 rfl (rv_cell 5 rfl rfl ti_58 rfl) (rv_tmp rfl) 4 [] rfl rfl ?_
                              refine JD_take (i := 7) hp231 rfl (by kernel_rfl) (by kernel_rfl) (by kernel_rfl) (wants_none rfl) rfl (ex_move rfl) ?_
                              refine JD_take (i := 8) hp231 rfl (by kernel_rfl) (by kernel_rfl) (by kernel_rfl) (wants_none rfl) rfl (ex_extract rfl rfl) ?_
                              refine JD_take (i := 9) hp231 rfl (by kernel_rfl) (by kernel_rfl) (by kernel_rfl) (wants_none rfl) rfl (ex_extract rfl rfl) ?_
                              refine JD_one (i := 11) (by kernel_rfl) ?_
                              refine JO_sk2 11 [0, 1] [2] [8] rfl rfl rfl rfl rfl rfl (wants_none rfl) (sk_store_bx' 11 ti_58 rfl rfl (fun w hh => (cv_aggs ⟨cv_slice, cv_bool, cv_int, cv_int, trivial⟩)) rfl rfl rfl rfl) (fun _ hk => hk) ?_
                              refine JD_take (i := 12) hp231 rfl (by kernel_rfl) (by kernel_rfl) (by kernel_rfl) (wants_none rfl) rfl (ex_assign rfl) ?_
                              refine JD_done (by kernel_rfl) ?_
                              refine N_ctx (fun w hh => hh.cons_rd (rdNil (α := Int))) ?_
                              exact N_meet' ((.slice none 0 0 : Value), b321) ⟨rfl, rfl, rfl, rfl, rfl, rfl, rfl, rfl, rfl, trivial⟩ [10, 11, 0, 12, 9] rfl rfl
                            · refine J_skip ?_
                              refine N_then ?_
                              refine J_seq ?_
                              refine J_seq ?_
                              refine J_region ?_
                              refine JL_q (wants_none rfl) rfl (ex_move rfl) ?_
                              refine JL_q (wants_none rfl) rfl (ex_len_rd 6 Tryd.underlying24 rfl rfl) ?_
                              refine JL_q (wants_none rfl) rfl (ex_move rfl) ?_
                              refine JL_q (wants_none rfl) rfl (ex_gtr rfl rfl) ?_
                              refine JL_nil ?_
                              refine N_then ?_
                              refine J_if rfl (fun h399 => ?_) (fun h399 => ?_)
                              · refine J_seq ?_
                                refine J_region ?_
                                refine JL_q (wants_none rfl) rfl (ex_move rfl) ?_
                                refine JL_q (wants_none rfl) rfl (ex_move rfl) ?_
                                refine JL_bnd fun z400 hz401 => ?_
                                refine JL_st (wants_none rfl) rfl (st_slice 6 Tryd.underlying24 ti_2 rfl rfl rfl rfl hz401) (fun v402 => ?_)
                                refine JL_q (wants_none rfl) rfl (ex_build si_58 rfl (.cons fi_58_0 rfl rfl (.cons fi_58_1 rfl rfl .nil)) (fun w hh => ⟨(hh.cv 0 rfl), cv_bool, trivial⟩)) ?_
                                refine JL_sk (wants_none rfl) (sk_store_bx' 6 ti_58 rfl rfl (fun w hh => (cv_aggs ⟨(hh.cv 0 rfl), cv_bool, cv_int, cv_int, trivial⟩)) rfl rfl rfl rfl) ?_
                                refine JL_q (wants_none rfl) rfl (ex_assign rfl) ?_
                                refine JL_nil ?_
                                refine N_then ?_
                                refine J_ret ?_
                                refine N_then_ret ?_
                                refine N_inlD2 hK322 rfl (rv_cell 6 rfl rfl ti_58 rfl) (rv_tmp rfl) 5 [] rfl rfl ?_
                                refine JD_take (i := 7) hp231 rfl (by kernel_rfl) (by kernel_rfl) (by kernel_rfl) (wants_none rfl) rfl (ex_move rfl) ?_
                                refine JD_take (i := 8) hp231 rfl (by kernel_rfl) (by kernel_rfl) (by kernel_rfl) (wants_none rfl) rfl (ex_extract rfl rfl) ?_
                                refine JD_take (i := 9) hp231 rfl (by kernel_rfl) (by kernel_rfl) (by kernel_rfl) (wants_none rfl) rfl (ex_extract rfl rfl) ?_
                                refine JD_one (i := 11) (by kernel_rfl) ?_
                                refine JO_sk2 12 [0, 1] [2] [9] rfl rfl rfl rfl rfl rfl (wants_none rfl) (sk_store_bx' 12 ti_58 rfl rfl (fun w hh => (cv_aggs ⟨(hh.cv 0 rfl), cv_bool, cv_int, cv_int, trivial⟩)) rfl rfl rfl rfl) (fun _ hk => hk) ?_
                                refine JD_take (i := 12) hp231 rfl (by kernel_rfl) (by kernel_rfl) (by kernel_rfl) (wants_none rfl) rfl (ex_assign rfl) ?_
                                refine JD_done (by kernel_rfl) ?_
                                exact N_meet' (v402, b321) ⟨rfl, rfl, rfl, rfl, rfl, rfl, rfl, rfl, rfl, trivial⟩ [10, 11, 0, 12, 9] rfl rfl
                              · refine J_skip ?_
                                refine N_then ?_
                                refine J_seq ?_
                                refine J_region ?_
                                refine JL_q (wants_none rfl) rfl (ex_move rfl) ?_
                                refine JL_q (wants_none rfl) rfl (ex_move rfl) ?_
                                refine JL_bnd fun z403 hz404 => ?_
                                refine JL_st (wants_none rfl) rfl (st_slice 7 Tryd.underlying24 ti_2 rfl rfl rfl rfl hz404) (fun v405 => ?_)
                                refine JL_q (wants_none rfl) rfl (ex_build si_58 rfl (.cons fi_58_0 rfl rfl .nil) (fun w hh => ⟨(hh.cv 0 rfl), trivial⟩)) ?_
                                refine JL_sk (wants_none rfl) (sk_store_bx' 6 ti_58 rfl rfl (fun w hh => (cv_aggs ⟨(hh.cv 0 rfl), cv_bool, cv_int, cv_int, trivial⟩)) rfl rfl rfl rfl) ?_
                                refine JL_q (wants_none rfl) rfl (ex_assign rfl) ?_
                                refine JL_nil ?_
                                refine N_then ?_
                                refine J_ret ?_
                                refine N_inlD2 hK322 rfl (rv_cell 6 rfl rfl ti_58 rfl) (rv_tmp rfl) 5 [] rfl rfl ?_
                                refine JD_take (i := 7) hp231 rfl (by kernel_rfl) (by kernel_rfl) (by kernel_rfl) (wants_none rfl) rfl (ex_move rfl) ?_
                                refine JD_take (i := 8) hp231 rfl (by kernel_rfl) (by kernel_rfl) (by kernel_rfl) (wants_none rfl) rfl (ex_extract rfl rfl) ?_
                                refine JD_take (i := 9) hp231 rfl (by kernel_rfl) (by kernel_rfl) (by kernel_rfl) (wants_none rfl) rfl (ex_extract rfl rfl) ?_
                                refine JD_one (i := 11) (by kernel_rfl) ?_
                                refine JO_sk2 12 [0, 1] [2] [9] rfl rfl rfl rfl rfl rfl (wants_none rfl) (sk_store_bx' 12 ti_58 rfl rfl (fun w hh => (cv_aggs ⟨(hh.cv 0 rfl), cv_bool, cv_int, cv_int, trivial⟩)) rfl rfl rfl rfl) (fun _ hk => hk) ?_
                                refine JD_take (i := 12) hp231 rfl (by kernel_rfl) (by kernel_rfl) (by kernel_rfl) (wants_none rfl) rfl (ex_assign rfl) ?_
                                refine JD_done (by kernel_rfl) ?_
                                exact N_meet' (v405, b321) ⟨rfl, rfl, rfl, rfl, rfl, rfl, rfl, rfl, rfl, trivial⟩ [10, 11, 0, 12, 9] rfl rfl
                      · obtain ⟨g222_0, g222_1⟩ := g222
                        refine N_then ?_
                        refine J_seq ?_
                        refine J_seq ?_
                        refine J_region ?_
                        refine JL_q (wants_none rfl) rfl (ex_move rfl) ?_
                        refine JL_q (wants_none rfl) rfl (ex_not rfl) ?_
                        refine JL_nil ?_
                        refine N_then ?_
                        refine J_if rfl (fun h406 => ?_) (fun h406 => ?_)
                        · refine J_exit ?_
                          refine N_then_exit ?_
                          refine N_block_exit ?_
                          refine N_then ?_
                          refine J_region ?_
                          refine JL_q (wants_none rfl) rfl (ex_move rfl) ?_
                          refine JL_q (wants_none rfl) rfl (ex_add rfl rfl) ?_
                          refine JL_q (wants_none rfl) rfl (ex_assign rfl) ?_
                          refine JL_nil ?_
                          exact N_next' g214 ⟨rfl, rfl, rfl, rfl, rfl, rfl, rfl, trivial⟩ [0, 1, 4] rfl rfl
                        · refine J_skip ?_
                          refine N_then ?_
                          refine J_seq ?_
                          refine J_region ?_
                          refine JL_q (wants_none rfl) rfl (ex_move rfl) ?_
                          refine JL_q (wants_none rfl) rfl (ex_fieldAddr fi_58_2 rfl rfl) ?_
                          refine JL_sk (wants_none rfl) (sk_store_bx' 3 ti_3 rfl rfl (fun w hh => cv_int) rfl rfl rfl rfl) ?_
                          refine JL_nil ?_
                          refine N_then ?_
                          refine J_seq ?_
                          refine J_region ?_
                          refine JL_q (wants_none rfl) rfl (ex_move rfl) ?_
                          refine JL_q (wants_none rfl) rfl (ex_fieldAddr fi_58_3 rfl rfl) ?_
                          refine JL_sk (wants_none rfl) (sk_store_bx' 3 ti_2 rfl rfl (fun w hh => cv_int) rfl rfl rfl rfl) ?_
                          refine JL_nil ?_
                          refine N_then ?_
                          refine J_seq ?_
                          refine J_seq ?_
                          refine J_region ?_
                          refine JL_q (wants_none rfl) rfl (ex_fieldAddr fi_58_0 rfl rfl) ?_
                          refine JL_q (wants_none rfl) rfl (ex_load_bx 3 ti_24 rfl rfl rfl) ?_
                          refine JL_q (wants_none rfl) rfl (ex_len_rd 2 Tryd.underlying24 rfl rfl) ?_
                          refine JL_q (wants_none rfl) rfl (ex_eql rfl rfl) ?_
                          refine JL_nil ?_
                          refine N_then ?_
                          refine J_if rfl (fun h407 => ?_) (fun h407 => ?_)
                          · refine J_seq ?_
                            refine J_region ?_
                            refine JL_q (wants_none rfl) rfl (ex_move rfl) ?_
                            refine JL_bnd fun r408 hr409 => ?_
                            refine JL_call (wants_none rfl) rfl Tryd.call30 rfl (Ca_self (fun _ => rfl) fun w hh => c_spec_l32Back _ w (fun _ hk => hk.elim) _ _ (hh.ow0 1 rfl) _ _ (hh.bx_pa 3 rfl (Gl32Rest.rdmk (hh.rd0 2 rfl) (Rd.mk_bool _ _ _) (Rd.mk_int _ _ _) (Rd.mk_int _ _ _)) rfl) _ hr409) (fun x410 => ?_)
                            refine JL_q (wants_none rfl) rfl (ex_extract rfl rfl) ?_
                            refine JL_q (wants_none rfl) rfl (ex_extract rfl rfl) ?_
                            refine JL_q (wants_none rfl) rfl (ex_assign rfl) ?_
                            refine JL_q (wants_none rfl) rfl (ex_assign rfl) ?_
                            refine JL_nil ?_
                            refine N_then ?_
                            refine J_ret ?_
                            refine N_then_ret ?_
                            refine N_block_ret ?_
                            refine N_then_ret ?_
                            refine N_round_ret ?_
                            refine N_block_ret ?_
                            refine N_then_ret ?_
                            refine N_round_reti ?_
                            refine N_then_ret ?_
                            refine N_inl2 hK160 rfl (rv_tmp rfl) (rv_tmp rfl) ?_
                            refine JL_q (wants_none rfl) rfl (ex_extract rfl rfl) ?_
                            refine JL_q (wants_none rfl) rfl (ex_extract rfl rfl) ?_
                            refine JL_q (wants_none rfl) rfl (ex_assign rfl) ?_
                            refine JL_q (wants_none rfl) rfl (ex_assign rfl) ?_
                            refine JL_nil ?_
                            refine N_then ?_
                            refine J_ret ?_
                            refine N_inl2 hK7 rfl (rv_tmp rfl) (rv_tmp rfl) ?_
                            refine JL_q (wants_none rfl) rfl (ex_move rfl) ?_
                            refine JL_q (wants_none rfl) rfl (ex_extract rfl rfl) ?_
                            refine JL_q (wants_none rfl) rfl (ex_extract rfl rfl) ?_
                            refine JL_q (wants_none rfl) rfl (ex_assign rfl) ?_
                            refine JL_q (wants_none rfl) rfl (ex_assign rfl) ?_
                            refine JL_nil ?_
                            refine N_then ?_
                            refine J_seq ?_
                            refine J_region ?_
                            refine JL_q (wants_none rfl) rfl (ex_move rfl) ?_
                            refine JL_bnd fun r411 hr412 => ?_
                            refine JL_call (wants_none rfl) rfl Tryd.call6 rfl (Ca_self (fun _ => rfl) fun w hh => c_laws_toDominoS _ w (fun _ hk => hk.elim) _ _ (hh.rd0 5 rfl) _ hr412) (fun x413 => ?_)
                            obtain ⟨x413_0, x413_1⟩ := x413
                            refine JL_q (wants_none rfl) rfl (ex_assign rfl) ?_
                            refine JL_nil ?_
                            refine N_then ?_
                            refine J_seq ?_
                            refine J_region ?_
                            refine JL_q (wants_none rfl) rfl (ex_move rfl) ?_
                            refine JL_q (wants_none rfl) rfl (ex_move rfl) ?_
                            refine JL_q (wants_none rfl) rfl (ex_move rfl) ?_
                            refine JL_bnd fun r414 hr415 => ?_
                            refine JL_call (wants_none rfl) rfl Tryd.call7 rfl (Ca_self (fun _ => rfl) fun w hh => c_impl_SolveDominoes _ w (fun _ hk => hk.elim) (Stn.of hT_ hh) _ _ (hh.od0 0 rfl) _ _ _ hr415) (fun x416 => ?_)
                            refine JL_q (wants_none rfl) rfl (ex_move rfl) ?_
                            refine JL_q (wants_none rfl) rfl (ex_extract rfl rfl) ?_
                            refine JL_q (wants_none rfl) rfl (ex_extract rfl rfl) ?_
                            refine JL_q (wants_none rfl) rfl (ex_assign rfl) ?_
                            refine JL_q (wants_none rfl) rfl (ex_assign rfl) ?_
                            refine JL_nil ?_
                            refine N_then ?_
                            refine J_seq ?_
                            refine J_cut' (S' := Unit) (G' := Unit) (fun _ _ => [(0, v0_), (1, .int .i64 p1), (2, .int .i64 p2), (8, x410), (9, .int .i64 r408.2), (10, x413_0), (11, x416), (12, .int .i64 r414.2)]) (fun _ _ => [.rd v0_ p0, .ow 2 x410 r408.1, .od 40 x413_0 r411 x413_1, .ow 2 x416 r414.1]) ?_ (fun s417 g418 => ?_)
                            · refine J_seq ?_
                              refine J_region ?_
                              refine JL_q (wants_none rfl) rfl (ex_move rfl) ?_
                              refine JL_q (wants_none rfl) rfl (ex_move rfl) ?_
                              refine JL_bnd fun r419 hr420 => ?_
                              refine JL_call (wants_none rfl) rfl Tryd.call8 rfl (Ca_of0 fun w hh => c_laws_eqInt64S _ w (fun _ hk => hk.elim) _ _ (hh.ow0 0 rfl) _ _ (hh.ow0 2 rfl) _ hr420) (fun _ => ?_)
                              refine JL_q (wants_none rfl) rfl (ex_not rfl) ?_
                              refine JL_q (wants_none rfl) rfl (ex_move rfl) ?_
                              refine JL_cond (fun h421 => ?_) (fun h421 => ?_)
                              · refine JL_passed rfl rfl rfl h421 ?_
                                refine JL_passed rfl rfl rfl h421 ?_
                                refine JL_passed rfl rfl rfl h421 ?_
                                refine JL_q (wants_none rfl) rfl (ex_pick_true rfl h421 rfl) ?_
                                refine JL_nil ?_
                                refine N_then ?_
                                refine J_if_true rfl rfl ?_
                                refine J_seq ?_
                                refine J_region ?_
                                refine JL_q (wants_none rfl) rfl (ex_assign rfl) ?_
                                refine JL_nil ?_
                                refine N_then ?_
                                refine J_ret ?_
                                refine N_mid_ret ?_
                                refine N_then_ret ?_
                                exact N_ret1 rfl (rv_tmp rfl) (fun w hh => ⟨(), rfl, hh.sel [] rfl⟩)
                              · refine JL_q (wants_some rfl rfl rfl h421) rfl (ex_move rfl) ?_
                                refine JL_q (wants_some rfl rfl rfl h421) rfl (ex_move rfl) ?_
                                refine JL_q (wants_some rfl rfl rfl h421) rfl (ex_neq rfl rfl) ?_
                                refine JL_q (wants_none rfl) rfl (ex_pick_false rfl h421 rfl) ?_
                                refine JL_nil ?_
                                refine N_then ?_
                                refine J_if rfl (fun h422 => ?_) (fun h422 => ?_)
                                · refine J_seq ?_
                                  refine J_region ?_
                                  refine JL_q (wants_none rfl) rfl (ex_assign rfl) ?_
                                  refine JL_nil ?_
                                  refine N_then ?_
                                  refine J_ret ?_
                                  refine N_mid_ret ?_
                                  refine N_then_ret ?_
                                  exact N_ret1 rfl (rv_tmp rfl) (fun w hh => ⟨(), rfl, hh.sel [] rfl⟩)
                                · refine J_skip ?_
                                  exact N_meet' () ⟨rfl, rfl, rfl, rfl, rfl, rfl, rfl, rfl, trivial⟩ [7, 2, 1, 0] rfl rfl
                            · refine N_then ?_
                              refine J_seq ?_
                              refine J_seq ?_
                              refine J_region ?_
                              refine JL_q (wants_none rfl) rfl (ex_move rfl) ?_
                              refine JL_q (wants_none rfl) rfl (ex_move rfl) ?_
                              refine JL_bnd fun r423 hr424 => ?_
                              refine JL_call (wants_none rfl) rfl Tryd.call6 rfl (Ca_self (fun _ => rfl) fun w hh => c_laws_toDominoS _ w (fun _ hk => hk.elim) _ _ (hh.rd0 0 rfl) _ hr424) (fun x425 => ?_)
                              obtain ⟨x425_0, x425_1⟩ := x425
                              refine JL_bnd fun r426 hr427 => ?_
                              refine JL_call (wants_none rfl) rfl Tryd.call9 rfl (Ca_of0 fun w hh => c_laws_eqDominoS _ w (fun _ hk => hk.elim) _ _ (hh.od0 3 rfl) _ _ (hh.od0 0 rfl) _ hr427) (fun _ => ?_)
                              refine JL_q (wants_none rfl) rfl (ex_not rfl) ?_
                              refine JL_nil ?_
                              refine N_then ?_
                              refine J_if rfl (fun h428 => ?_) (fun h428 => ?_)
                              · refine J_seq ?_
                                refine J_region ?_
                                refine JL_q (wants_none rfl) rfl (ex_assign rfl) ?_
                                refine JL_nil ?_
                                refine N_then ?_
                                refine J_ret ?_
                                refine N_then_ret ?_
                                exact N_ret1 rfl (rv_tmp rfl) (fun w hh => ⟨(), rfl, hh.sel [] rfl⟩)
                              · refine J_skip ?_
                                refine N_then ?_
                                refine J_seq ?_
                                refine J_region ?_
                                refine JL_q (wants_none rfl) rfl (ex_assign rfl) ?_
                                refine JL_nil ?_
                                refine N_then ?_
                                refine J_seq ?_
                                refine J_region ?_
                                refine JL_q (wants_none rfl) rfl (ex_move rfl) ?_
                                refine JL_q (wants_none rfl) rfl (ex_move rfl) ?_
                                refine JL_bnd fun r429 hr430 => ?_
                                refine JL_ctx (fun w hh => hh.tok 3 rfl) ?_
                                refine JL_mark 0 [1, 3, 5] mk_laws_markDominoS (wants_none rfl) rfl Tryd.call10 rfl rfl rfl rfl ((SH.start hA).start_rd rfl hp0) rfl hr430 ?_
                                refine JL_q (wants_none rfl) rfl (ex_assign rfl) ?_
                                refine JL_nil ?_
                                refine N_then ?_
                                refine J_seq ?_
                                refine J_cut' (S' := Unit) (G' := Unit) (fun _ _ => [(0, v0_), (1, .int .i64 p1), (2, .int .i64 p2), (8, x410), (9, .int .i64 r408.2), (11, x416)]) (fun _ _ => [.rd v0_ p0, .ow 2 x410 r408.1, .ow 2 x416 r414.1]) ?_ (fun s431 g432 => ?_)
                                · refine J_seq ?_
                                  refine J_region ?_
                                  refine JL_q (wants_none rfl) rfl (ex_move rfl) ?_
                                  refine JL_q (wants_none rfl) rfl (ex_lss rfl rfl) ?_
                                  refine JL_q (wants_none rfl) rfl (ex_move rfl) ?_
                                  refine JL_cond (fun h433 => ?_) (fun h433 => ?_)
                                  · refine JL_passed rfl rfl rfl h433 ?_
                                    refine JL_passed rfl rfl rfl h433 ?_
                                    refine JL_passed rfl rfl rfl h433 ?_
                                    refine JL_passed rfl rfl rfl h433 ?_
                                    refine JL_q (wants_none rfl) rfl (ex_pick_true rfl h433 rfl) ?_
                                    refine JL_q (wants_none rfl) rfl (ex_move rfl) ?_
                                    refine JL_passed rfl rfl rfl rfl ?_
                                    refine JL_passed rfl rfl rfl rfl ?_
                                    refine JL_passed rfl rfl rfl rfl ?_
                                    refine JL_q (wants_none rfl) rfl (ex_pick_true rfl rfl rfl) ?_
                                    refine JL_nil ?_
                                    refine N_then ?_
                                    refine J_if_true rfl rfl ?_
                                    refine J_seq ?_
                                    refine J_region ?_
                                    refine JL_q (wants_none rfl) rfl (ex_assign rfl) ?_
                                    refine JL_nil ?_
                                    refine N_then ?_
                                    refine J_ret ?_
                                    refine N_mid_ret ?_
                                    refine N_then_ret ?_
                                    exact N_ret1 rfl (rv_tmp rfl) (fun w hh => ⟨(), rfl, hh.sel [] rfl⟩)
                                  · refine JL_q (wants_some rfl rfl rfl h433) rfl (ex_move rfl) ?_
                                    refine JL_q (wants_some rfl rfl rfl h433) rfl (ex_move rfl) ?_
                                    refine JL_bnd fun r434 hr435 => ?_
                                    refine JL_call (wants_some rfl rfl rfl h433) rfl Tryd.call8 rfl (Ca_of0 fun w hh => c_laws_eqInt64S _ w (fun _ hk => hk.elim) _ _ (hh.ow0 5 rfl) _ _ (hh.ow0 4 rfl) _ hr435) (fun _ => ?_)
                                    refine JL_q (wants_some rfl rfl rfl h433) rfl (ex_not rfl) ?_
                                    refine JL_q (wants_none rfl) rfl (ex_pick_false rfl h433 rfl) ?_
                                    refine JL_q (wants_none rfl) rfl (ex_move rfl) ?_
                                    refine JL_cond (fun h436 => ?_) (fun h436 => ?_)
                                    · refine JL_passed rfl rfl rfl h436 ?_
                                      refine JL_passed rfl rfl rfl h436 ?_
                                      refine JL_passed rfl rfl rfl h436 ?_
                                      refine JL_q (wants_none rfl) rfl (ex_pick_true rfl h436 rfl) ?_
                                      refine JL_nil ?_
                                      refine N_then ?_
                                      refine J_if_true rfl rfl ?_
                                      refine J_seq ?_
                                      refine J_region ?_
                                      refine JL_q (wants_none rfl) rfl (ex_assign rfl) ?_
                                      refine JL_nil ?_
                                      refine N_then ?_
                                      refine J_ret ?_
                                      refine N_mid_ret ?_
                                      refine N_then_ret ?_
                                      exact N_ret1 rfl (rv_tmp rfl) (fun w hh => ⟨(), rfl, hh.sel [] rfl⟩)
                                    · refine JL_q (wants_some rfl rfl rfl h436) rfl (ex_move rfl) ?_
                                      refine JL_q (wants_some rfl rfl rfl h436) rfl (ex_move rfl) ?_
                                      refine JL_q (wants_some rfl rfl rfl h436) rfl (ex_neq rfl rfl) ?_
                                      refine JL_q (wants_none rfl) rfl (ex_pick_false rfl h436 rfl) ?_
                                      refine JL_nil ?_
                                      refine N_then ?_
                                      refine J_if rfl (fun h437 => ?_) (fun h437 => ?_)
                                      · refine J_seq ?_
                                        refine J_region ?_
                                        refine JL_q (wants_none rfl) rfl (ex_assign rfl) ?_
                                        refine JL_nil ?_
                                        refine N_then ?_
                                        refine J_ret ?_
                                        refine N_mid_ret ?_
                                        refine N_then_ret ?_
                                        exact N_ret1 rfl (rv_tmp rfl) (fun w hh => ⟨(), rfl, hh.sel [] rfl⟩)
                                      · refine J_skip ?_
                                        exact N_meet' () ⟨rfl, rfl, rfl, rfl, rfl, rfl, trivial⟩ [2, 4, 5] rfl rfl
                                · refine N_then ?_
                                  refine J_seq ?_
                                  refine J_region ?_
                                  refine JL_q (wants_none rfl) rfl (ex_assign rfl) ?_
                                  refine JL_nil ?_
                                  refine N_then ?_
                                  refine J_seq ?_
                                  refine J_region ?_
                                  refine JL_q (wants_none rfl) rfl (ex_move rfl) ?_
                                  refine JL_q (wants_none rfl) rfl (ex_move rfl) ?_
                                  refine JL_bnd fun r438 hr439 => ?_
                                  refine JL_ctx (fun w hh => hh.tokf 2 rfl rfl) ?_
                                  refine JL_mark 0 [2] mk_laws_markInt64S (wants_none rfl) rfl Tryd.call11 rfl rfl rfl rfl ((SH.start hA).start_rd rfl hp0) rfl hr439 ?_
                                  refine JL_q (wants_none rfl) rfl (ex_assign rfl) ?_
                                  refine JL_nil ?_
                                  refine N_then ?_
                                  refine J_seq ?_
                                  refine J_region ?_
                                  refine JL_q (wants_none rfl) rfl (ex_assign rfl) ?_
                                  refine JL_nil ?_
                                  refine N_then ?_
                                  refine J_seq ?_
                                  refine J_region ?_
                                  refine JL_q (wants_none rfl) rfl (ex_move rfl) ?_
                                  refine JL_q (wants_none rfl) rfl (ex_move rfl) ?_
                                  refine JL_bnd fun r440 hr441 => ?_
                                  refine JL_call (wants_none rfl) rfl Tryd.call12 rfl (Ca_of0 fun w hh => c_laws_heldInt64S _ w (fun _ hk => hk.elim) _ _ (hh.rd0 0 rfl) _ _ hr441) (fun _ => ?_)
                                  refine JL_q (wants_none rfl) rfl (ex_assign rfl) ?_
                                  refine JL_nil ?_
                                  refine N_then ?_
                                  refine J_seq ?_
                                  refine J_seq ?_
                                  refine J_region ?_
                                  refine JL_q (wants_none rfl) rfl (ex_move rfl) ?_
                                  refine JL_q (wants_none rfl) rfl (ex_lss rfl rfl) ?_
                                  refine JL_nil ?_
                                  refine N_then ?_
                                  refine J_if rfl (fun h442 => ?_) (fun h442 => ?_)
                                  · refine J_seq ?_
                                    refine J_region ?_
                                    refine JL_q (wants_none rfl) rfl (ex_assign rfl) ?_
                                    refine JL_nil ?_
                                    refine N_then ?_
                                    refine J_ret ?_
                                    refine N_then_ret ?_
                                    exact N_ret1 rfl (rv_tmp rfl) (fun w hh => ⟨(), rfl, hh.sel [] rfl⟩)
                                  · refine J_skip ?_
                                    refine N_then ?_
                                    refine J_seq ?_
                                    refine J_seq ?_
                                    refine J_region ?_
                                    refine JL_q (wants_none rfl) rfl (ex_move rfl) ?_
                                    refine JL_q (wants_none rfl) rfl (ex_move rfl) ?_
                                    refine JL_q (wants_none rfl) rfl (ex_neq rfl rfl) ?_
                                    refine JL_nil ?_
                                    refine N_then ?_
                                    refine J_if rfl (fun h443 => ?_) (fun h443 => ?_)
                                    · refine J_seq ?_
                                      refine J_region ?_
                                      refine JL_q (wants_none rfl) rfl (ex_assign rfl) ?_
                                      refine JL_nil ?_
                                      refine N_then ?_
                                      refine J_ret ?_
                                      refine N_then_ret ?_
                                      exact N_ret1 rfl (rv_tmp rfl) (fun w hh => ⟨(), rfl, hh.sel [] rfl⟩)
                                    · refine J_skip ?_
                                      refine N_then ?_
                                      refine J_seq ?_
                                      refine J_region ?_
                                      refine JL_q (wants_none rfl) rfl (ex_move rfl) ?_
                                      refine JL_bnd fun r444 hr445 => ?_
                                      refine JL_call (wants_none rfl) rfl Tryd.call6 rfl (Ca_self (fun _ => rfl) fun w hh => c_laws_toDominoS _ w (fun _ hk => hk.elim) _ _ (hh.rd0 2 rfl) _ hr445) (fun x446 => ?_)
                                      obtain ⟨x446_0, x446_1⟩ := x446
                                      refine JL_q (wants_none rfl) rfl (ex_move rfl) ?_
                                      refine JL_q (wants_none rfl) rfl (ex_move rfl) ?_
                                      refine JL_bnd fun r447 hr448 => ?_
                                      refine JL_call (wants_none rfl) rfl Tryd.call7 rfl (Ca_self (fun _ => rfl) fun w hh => c_impl_SolveDominoes _ w (fun _ hk => hk.elim) (Stn.of hT_ hh) _ _ (hh.od0 0 rfl) _ _ _ hr448) (fun x449 => ?_)
                                      refine JL_q (wants_none rfl) rfl (ex_move rfl) ?_
                                      refine JL_q (wants_none rfl) rfl (ex_extract rfl rfl) ?_
                                      refine JL_q (wants_none rfl) rfl (ex_extract rfl rfl) ?_
                                      refine JL_q (wants_none rfl) rfl (ex_assign rfl) ?_
                                      refine JL_q (wants_none rfl) rfl (ex_assign rfl) ?_
                                      refine JL_nil ?_
                                      refine N_then ?_
                                      refine J_seq ?_
                                      refine J_seq ?_
                                      refine J_region ?_
                                      refine JL_q (wants_none rfl) rfl (ex_move rfl) ?_
                                      refine JL_q (wants_none rfl) rfl (ex_move rfl) ?_
                                      refine JL_bnd fun r450 hr451 => ?_
                                      refine JL_call (wants_none rfl) rfl Tryd.call8 rfl (Ca_of0 fun w hh => c_laws_eqInt64S _ w (fun _ hk => hk.elim) _ _ (hh.ow0 0 rfl) _ _ (hh.ow0 5 rfl) _ hr451) (fun _ => ?_)
                                      refine JL_q (wants_none rfl) rfl (ex_not rfl) ?_
                                      refine JL_q (wants_none rfl) rfl (ex_move rfl) ?_
                                      refine JL_cond (fun h452 => ?_) (fun h452 => ?_)
                                      · refine JL_passed rfl rfl rfl h452 ?_
                                        refine JL_passed rfl rfl rfl h452 ?_
                                        refine JL_passed rfl rfl rfl h452 ?_
                                        refine JL_q (wants_none rfl) rfl (ex_pick_true rfl h452 rfl) ?_
                                        refine JL_nil ?_
                                        refine N_then ?_
                                        refine J_if_true rfl rfl ?_
                                        refine J_seq ?_
                                        refine J_region ?_
                                        refine JL_q (wants_none rfl) rfl (ex_assign rfl) ?_
                                        refine JL_nil ?_
                                        refine N_then ?_
                                        refine J_ret ?_
                                        refine N_then_ret ?_
                                        exact N_ret1 rfl (rv_tmp rfl) (fun w hh => ⟨(), rfl, hh.sel [] rfl⟩)
                                      · refine JL_q (wants_some rfl rfl rfl h452) rfl (ex_move rfl) ?_
                                        refine JL_q (wants_some rfl rfl rfl h452) rfl (ex_move rfl) ?_
                                        refine JL_q (wants_some rfl rfl rfl h452) rfl (ex_neq rfl rfl) ?_
                                        refine JL_q (wants_none rfl) rfl (ex_pick_false rfl h452 rfl) ?_
                                        refine JL_nil ?_
                                        refine N_then ?_
                                        refine J_if rfl (fun h453 => ?_) (fun h453 => ?_)
                                        · refine J_seq ?_
                                          refine J_region ?_
                                          refine JL_q (wants_none rfl) rfl (ex_assign rfl) ?_
                                          refine JL_nil ?_
                                          refine N_then ?_
                                          refine J_ret ?_
                                          refine N_then_ret ?_
                                          exact N_ret1 rfl (rv_tmp rfl) (fun w hh => ⟨(), rfl, hh.sel [] rfl⟩)
                                        · refine J_skip ?_
                                          refine N_then ?_
                                          refine J_seq ?_
                                          refine J_region ?_
                                          refine JL_q (wants_none rfl) rfl (ex_assign rfl) ?_
                                          refine JL_nil ?_
                                          refine N_then ?_
                                          refine J_seq ?_
                                          refine J_region ?_
                                          refine JL_q (wants_none rfl) rfl (ex_move rfl) ?_
                                          refine JL_q (wants_none rfl) rfl (ex_move rfl) ?_
                                          refine JL_bnd fun r454 hr455 => ?_
                                          refine JL_call (wants_none rfl) rfl Tryd.call12 rfl (Ca_of0 fun w hh => c_laws_heldInt64S _ w (fun _ hk => hk.elim) _ _ (hh.rd0 2 rfl) _ _ hr455) (fun _ => ?_)
                                          refine JL_q (wants_none rfl) rfl (ex_assign rfl) ?_
                                          refine JL_nil ?_
                                          refine N_then ?_
                                          refine J_seq ?_
                                          refine J_seq ?_
                                          refine J_region ?_
                                          refine JL_q (wants_none rfl) rfl (ex_move rfl) ?_
                                          refine JL_q (wants_none rfl) rfl (ex_lss rfl rfl) ?_
                                          refine JL_nil ?_
                                          refine N_then ?_
                                          refine J_if rfl (fun h456 => ?_) (fun h456 => ?_)
                                          · refine J_seq ?_
                                            refine J_region ?_
                                            refine JL_q (wants_none rfl) rfl (ex_assign rfl) ?_
                                            refine JL_nil ?_
                                            refine N_then ?_
                                            refine J_ret ?_
                                            refine N_then_ret ?_
                                            exact N_ret1 rfl (rv_tmp rfl) (fun w hh => ⟨(), rfl, hh.sel [] rfl⟩)
                                          · refine J_skip ?_
                                            refine N_then ?_
                                            refine J_seq ?_
                                            refine J_seq ?_
                                            refine J_region ?_
                                            refine JL_q (wants_none rfl) rfl (ex_move rfl) ?_
                                            refine JL_q (wants_none rfl) rfl (ex_move rfl) ?_
                                            refine JL_q (wants_none rfl) rfl (ex_neq rfl rfl) ?_
                                            refine JL_nil ?_
                                            refine N_then ?_
                                            refine J_if rfl (fun h457 => ?_) (fun h457 => ?_)
                                            · refine J_seq ?_
                                              refine J_region ?_
                                              refine JL_q (wants_none rfl) rfl (ex_assign rfl) ?_
                                              refine JL_nil ?_
                                              refine N_then ?_
                                              refine J_ret ?_
                                              refine N_then_ret ?_
                                              exact N_ret1 rfl (rv_tmp rfl) (fun w hh => ⟨(), rfl, hh.sel [] rfl⟩)
                                            · refine J_skip ?_
                                              refine N_then ?_
                                              refine J_seq ?_
                                              refine J_region ?_
                                              refine JL_q (wants_none rfl) rfl (ex_assign rfl) ?_
                                              refine JL_nil ?_
                                              refine N_then ?_
                                              refine J_ret ?_
                                              exact N_ret1 rfl (rv_tmp rfl) (fun w hh => ⟨(), rfl, hh.sel [] rfl⟩)
                          · refine J_skip ?_
                            refine N_then ?_
                            refine J_seq ?_
                            refine J_seq ?_
                            refine J_region ?_
                            refine JL_q (wants_none rfl) rfl (ex_fieldAddr fi_58_0 rfl rfl) ?_
                            refine JL_q (wants_none rfl) rfl (ex_load_bx 3 ti_24 rfl rfl rfl) ?_
                            refine JL_q (wants_none rfl) rfl (ex_len_rd 2 Tryd.underlying24 rfl rfl) ?_
                            refine JL_q (wants_none rfl) rfl (ex_gtr rfl rfl) ?_
                            refine JL_nil ?_
                            refine N_then ?_
                            refine J_if rfl (fun h458 => ?_) (fun h458 => ?_)
                            · refine J_seq ?_
                              refine J_region ?_
                              refine JL_q (wants_none rfl) rfl (ex_assign rfl) ?_
                              refine JL_nil ?_
                              refine N_then ?_
                              refine J_exit ?_
                              refine N_then_exit ?_
                              refine N_block_exit ?_
                              refine N_then ?_
                              refine J_region ?_
                              refine JL_q (wants_none rfl) rfl (ex_move rfl) ?_
                              refine JL_q (wants_none rfl) rfl (ex_add rfl rfl) ?_
                              refine JL_q (wants_none rfl) rfl (ex_assign rfl) ?_
                              refine JL_nil ?_
                              exact N_next' g214 ⟨rfl, rfl, rfl, rfl, rfl, rfl, rfl, trivial⟩ [0, 1, 4] rfl rfl
                            · refine J_skip ?_
                              refine N_then ?_
                              refine J_seq ?_
                              refine J_seq ?_
                              refine J_region ?_
                              refine JL_q (wants_none rfl) rfl (ex_move rfl) ?_
                              refine JL_bnd fun r459 hr460 => ?_
                              refine JL_call (wants_none rfl) rfl Tryd.call31 rfl (Ca_of0 fun w hh => c_spec_l32Known _ w (fun _ hk => hk.elim) _ _ (hh.ow0 1 rfl) _ _ (hh.bx_pa 3 rfl (Gl32Rest.rdmk (hh.rd0 2 rfl) (Rd.mk_bool _ _ _) (Rd.mk_int _ _ _) (Rd.mk_int _ _ _)) rfl) _ hr460) (fun _ => ?_)
                              refine JL_nil ?_
                              refine N_then ?_
                              refine J_if rfl (fun h461 => ?_) (fun h461 => ?_)
                              · refine J_exit ?_
                                refine N_then_exit ?_
                                refine N_block_exit ?_
                                refine N_then ?_
                                refine J_region ?_
                                refine JL_q (wants_none rfl) rfl (ex_move rfl) ?_
                                refine JL_q (wants_none rfl) rfl (ex_add rfl rfl) ?_
                                refine JL_q (wants_none rfl) rfl (ex_assign rfl) ?_
                                refine JL_nil ?_
                                exact N_next' g214 ⟨rfl, rfl, rfl, rfl, rfl, rfl, rfl, trivial⟩ [0, 1, 4] rfl rfl
                              · refine J_skip ?_
                                refine N_then ?_
                                refine J_seq ?_
                                refine J_region ?_
                                refine JL_q (wants_none rfl) rfl (ex_move rfl) ?_
                                refine JL_q (wants_none rfl) rfl (ex_load_bx_agg 3 ti_58 rfl rfl rfl rfl) ?_
                                refine JL_st (wants_none rfl) rfl (st_buildSlice (vs := [.agg #[g222_0, .bool s221.2.1, .int .i64 s162.2.2, .int .i64 s213.2.2]]) ([(⟨s221.1, s221.2.1, s162.2.2, s213.2.2⟩ : Gl32Rest)] : List Gl32Rest) Tryd.underlying59 ti_58 zi_58 rfl rfl rfl (fun w hh => ⟨(Gl32Rest.rdmk (hh.rd 2 rfl) (Rd.mk_bool _ _ _) (Rd.mk_int _ _ _) (Rd.mk_int _ _ _)), trivial⟩)) (fun b462 => ?_)
                                refine JL_bnd fun z463 hz464 => ?_
                                refine JL_st (wants_none rfl) rfl (st_append 2 Tryd.underlying59 ti_58 zi_58 rfl bi_58 rfl rfl rfl rfl (fun w hh => hh.src_ow 0 rfl) hz464) (fun v465 => ?_)
                                refine JL_q (wants_none rfl) rfl (ex_assign rfl) ?_
                                refine JL_nil ?_
                                refine N_then ?_
                                refine J_seq ?_
                                refine J_region ?_
                                refine JL_q (wants_none rfl) rfl (ex_move rfl) ?_
                                refine JL_q (wants_none rfl) rfl (ex_len_ow 2 Tryd.underlying59 rfl rfl) ?_
                                refine JL_q (wants_none rfl) rfl (ex_gtr rfl rfl) ?_
                                refine JL_nil ?_
                                refine N_then ?_
                                refine J_if rfl (fun h466 => ?_) (fun h466 => ?_)
                                · refine J_seq ?_
                                  refine J_region ?_
                                  refine JL_q (wants_none rfl) rfl (ex_assign rfl) ?_
                                  refine JL_q (wants_none rfl) rfl (ex_assign rfl) ?_
                                  refine JL_nil ?_
                                  refine N_then ?_
                                  refine J_ret ?_
                                  refine N_block_ret ?_
                                  refine N_then_ret ?_
                                  refine N_round_ret ?_
                                  refine N_block_ret ?_
                                  refine N_then_ret ?_
                                  refine N_round_reti ?_
                                  refine N_then_ret ?_
                                  refine N_inl2 hK160 rfl (rv_tmp rfl) (rv_tmp rfl) ?_
                                  refine JL_q (wants_none rfl) rfl (ex_extract rfl rfl) ?_
                                  refine JL_q (wants_none rfl) rfl (ex_extract rfl rfl) ?_
                                  refine JL_q (wants_none rfl) rfl (ex_assign rfl) ?_
                                  refine JL_q (wants_none rfl) rfl (ex_assign rfl) ?_
                                  refine JL_nil ?_
                                  refine N_then ?_
                                  refine J_ret ?_
                                  refine N_inl2 hK7 rfl (rv_tmp rfl) (rv_tmp rfl) ?_
                                  refine JL_q (wants_none rfl) rfl (ex_move rfl) ?_
                                  refine JL_q (wants_none rfl) rfl (ex_extract rfl rfl) ?_
                                  refine JL_q (wants_none rfl) rfl (ex_extract rfl rfl) ?_
                                  refine JL_q (wants_none rfl) rfl (ex_assign rfl) ?_
                                  refine JL_q (wants_none rfl) rfl (ex_assign rfl) ?_
                                  refine JL_nil ?_
                                  refine N_then ?_
                                  refine J_seq ?_
                                  refine J_region ?_
                                  refine JL_q (wants_none rfl) rfl (ex_move rfl) ?_
                                  refine JL_bnd fun r467 hr468 => ?_
                                  refine JL_call (wants_none rfl) rfl Tryd.call6 rfl (Ca_self (fun _ => rfl) fun w hh => c_laws_toDominoS _ w (fun _ hk => hk.elim) _ _ (hh.rd0 5 rfl) _ hr468) (fun x469 => ?_)
                                  obtain ⟨x469_0, x469_1⟩ := x469
                                  refine JL_q (wants_none rfl) rfl (ex_assign rfl) ?_
                                  refine JL_nil ?_
                                  refine N_then ?_
                                  refine J_seq ?_
                                  refine J_region ?_
                                  refine JL_q (wants_none rfl) rfl (ex_move rfl) ?_
                                  refine JL_q (wants_none rfl) rfl (ex_move rfl) ?_
                                  refine JL_q (wants_none rfl) rfl (ex_move rfl) ?_
                                  refine JL_bnd fun r470 hr471 => ?_
                                  refine JL_call (wants_none rfl) rfl Tryd.call7 rfl (Ca_self (fun _ => rfl) fun w hh => c_impl_SolveDominoes _ w (fun _ hk => hk.elim) (Stn.of hT_ hh) _ _ (hh.od0 0 rfl) _ _ _ hr471) (fun x472 => ?_)
                                  refine JL_q (wants_none rfl) rfl (ex_move rfl) ?_
                                  refine JL_q (wants_none rfl) rfl (ex_extract rfl rfl) ?_
                                  refine JL_q (wants_none rfl) rfl (ex_extract rfl rfl) ?_
                                  refine JL_q (wants_none rfl) rfl (ex_assign rfl) ?_
                                  refine JL_q (wants_none rfl) rfl (ex_assign rfl) ?_
                                  refine JL_nil ?_
                                  refine N_then ?_
                                  refine J_seq ?_
                                  refine J_cut' (S' := Unit) (G' := Unit) (fun _ _ => [(0, v0_), (1, .int .i64 p1), (2, .int .i64 p2), (8, .slice none 0 0), (9, .int .i64 5), (10, x469_0), (11, x472), (12, .int .i64 r470.2)]) (fun _ _ => [.rd v0_ p0, .od 40 x469_0 r467 x469_1, .ow 2 x472 r470.1]) ?_ (fun s473 g474 => ?_)
                                  · refine J_seq ?_
                                    refine J_region ?_
                                    refine JL_q (wants_none rfl) rfl (ex_move rfl) ?_
                                    refine JL_q (wants_none rfl) rfl (ex_move rfl) ?_
                                    refine JL_bnd fun r475 hr476 => ?_
                                    refine JL_call (wants_none rfl) rfl Tryd.call8 rfl (Ca_of0 fun w hh => c_laws_eqInt64S _ w (fun _ hk => hk.elim) _ _ (hh.ow0 0 rfl) _ _ rdNil _ hr476) (fun _ => ?_)
                                    refine JL_q (wants_none rfl) rfl (ex_not rfl) ?_
                                    refine JL_q (wants_none rfl) rfl (ex_move rfl) ?_
                                    refine JL_cond (fun h477 => ?_) (fun h477 => ?_)
                                    · refine JL_passed rfl rfl rfl h477 ?_
                                      refine JL_passed rfl rfl rfl h477 ?_
                                      refine JL_passed rfl rfl rfl h477 ?_
                                      refine JL_q (wants_none rfl) rfl (ex_pick_true rfl h477 rfl) ?_
                                      refine JL_nil ?_
                                      refine N_then ?_
                                      refine J_if_true rfl rfl ?_
                                      refine J_seq ?_
                                      refine J_region ?_
                                      refine JL_q (wants_none rfl) rfl (ex_assign rfl) ?_
                                      refine JL_nil ?_
                                      refine N_then ?_
                                      refine J_ret ?_
                                      refine N_mid_ret ?_
                                      refine N_then_ret ?_
                                      exact N_ret1 rfl (rv_tmp rfl) (fun w hh => ⟨(), rfl, hh.sel [] rfl⟩)
                                    · refine JL_q (wants_some rfl rfl rfl h477) rfl (ex_move rfl) ?_
                                      refine JL_q (wants_some rfl rfl rfl h477) rfl (ex_move rfl) ?_
                                      refine JL_q (wants_some rfl rfl rfl h477) rfl (ex_neq rfl rfl) ?_
                                      refine JL_q (wants_none rfl) rfl (ex_pick_false rfl h477 rfl) ?_
                                      refine JL_nil ?_
                                      refine N_then ?_
                                      refine J_if rfl (fun h478 => ?_) (fun h478 => ?_)
                                      · refine J_seq ?_
                                        refine J_region ?_
                                        refine JL_q (wants_none rfl) rfl (ex_assign rfl) ?_
                                        refine JL_nil ?_
                                        refine N_then ?_
                                        refine J_ret ?_
                                        refine N_mid_ret ?_
                                        refine N_then_ret ?_
                                        exact N_ret1 rfl (rv_tmp rfl) (fun w hh => ⟨(), rfl, hh.sel [] rfl⟩)
                                      · refine J_skip ?_
                                        exact N_meet' () ⟨rfl, rfl, rfl, rfl, rfl, rfl, rfl, rfl, trivial⟩ [7, 1, 0] rfl rfl
                                  · refine N_then ?_
                                    refine J_seq ?_
                                    refine J_seq ?_
                                    refine J_region ?_
                                    refine JL_q (wants_none rfl) rfl (ex_move rfl) ?_
                                    refine JL_q (wants_none rfl) rfl (ex_move rfl) ?_
                                    refine JL_bnd fun r479 hr480 => ?_
                                    refine JL_call (wants_none rfl) rfl Tryd.call6 rfl (Ca_self (fun _ => rfl) fun w hh => c_laws_toDominoS _ w (fun _ hk => hk.elim) _ _ (hh.rd0 0 rfl) _ hr480) (fun x481 => ?_)
                                    obtain ⟨x481_0, x481_1⟩ := x481
                                    refine JL_bnd fun r482 hr483 => ?_
                                    refine JL_call (wants_none rfl) rfl Tryd.call9 rfl (Ca_of0 fun w hh => c_laws_eqDominoS _ w (fun _ hk => hk.elim) _ _ (hh.od0 2 rfl) _ _ (hh.od0 0 rfl) _ hr483) (fun _ => ?_)
                                    refine JL_q (wants_none rfl) rfl (ex_not rfl) ?_
                                    refine JL_nil ?_
                                    refine N_then ?_
                                    refine J_if rfl (fun h484 => ?_) (fun h484 => ?_)
                                    · refine J_seq ?_
                                      refine J_region ?_
                                      refine JL_q (wants_none rfl) rfl (ex_assign rfl) ?_
                                      refine JL_nil ?_
                                      refine N_then ?_
                                      refine J_ret ?_
                                      refine N_then_ret ?_
                                      exact N_ret1 rfl (rv_tmp rfl) (fun w hh => ⟨(), rfl, hh.sel [] rfl⟩)
                                    · refine J_skip ?_
                                      refine N_then ?_
                                      refine J_seq ?_
                                      refine J_region ?_
                                      refine JL_q (wants_none rfl) rfl (ex_assign rfl) ?_
                                      refine JL_nil ?_
                                      refine N_then ?_
                                      refine J_seq ?_
                                      refine J_region ?_
                                      refine JL_q (wants_none rfl) rfl (ex_move rfl) ?_
                                      refine JL_q (wants_none rfl) rfl (ex_move rfl) ?_
                                      refine JL_bnd fun r485 hr486 => ?_
                                      refine JL_ctx (fun w hh => hh.tok 2 rfl) ?_
                                      refine JL_mark 0 [1, 4] mk_laws_markDominoS (wants_none rfl) rfl Tryd.call10 rfl rfl rfl rfl ((SH.start hA).start_rd rfl hp0) rfl hr486 ?_
                                      refine JL_q (wants_none rfl) rfl (ex_assign rfl) ?_
                                      refine JL_nil ?_
                                      refine N_then ?_
                                      refine J_seq ?_
                                      refine J_cut' (S' := Unit) (G' := Unit) (fun _ _ => [(0, v0_), (1, .int .i64 p1), (2, .int .i64 p2), (8, .slice none 0 0), (9, .int .i64 5), (11, x472)]) (fun _ _ => [.rd v0_ p0, .ow 2 x472 r470.1]) ?_ (fun s487 g488 => ?_)
                                      · refine J_seq ?_
                                        refine J_region ?_
                                        refine JL_q (wants_none rfl) rfl (ex_move rfl) ?_
                                        refine JL_q (wants_none rfl) rfl (ex_lss rfl rfl) ?_
                                        refine JL_q (wants_none rfl) rfl (ex_move rfl) ?_
                                        refine JL_cond (fun h489 => ?_) (fun h489 => ?_)
                                        · refine JL_passed rfl rfl rfl h489 ?_
                                          refine JL_passed rfl rfl rfl h489 ?_
                                          refine JL_passed rfl rfl rfl h489 ?_
                                          refine JL_passed rfl rfl rfl h489 ?_
                                          refine JL_q (wants_none rfl) rfl (ex_pick_true rfl h489 rfl) ?_
                                          refine JL_q (wants_none rfl) rfl (ex_move rfl) ?_
                                          refine JL_passed rfl rfl rfl rfl ?_
                                          refine JL_passed rfl rfl rfl rfl ?_
                                          refine JL_passed rfl rfl rfl rfl ?_
                                          refine JL_q (wants_none rfl) rfl (ex_pick_true rfl rfl rfl) ?_
                                          refine JL_nil ?_
                                          refine N_then ?_
                                          refine J_if_true rfl rfl ?_
                                          refine J_seq ?_
                                          refine J_region ?_
                                          refine JL_q (wants_none rfl) rfl (ex_assign rfl) ?_
                                          refine JL_nil ?_
                                          refine N_then ?_
                                          refine J_ret ?_
                                          refine N_mid_ret ?_
                                          refine N_then_ret ?_
                                          exact N_ret1 rfl (rv_tmp rfl) (fun w hh => ⟨(), rfl, hh.sel [] rfl⟩)
                                        · refine JL_q (wants_some rfl rfl rfl h489) rfl (ex_move rfl) ?_
                                          refine JL_q (wants_some rfl rfl rfl h489) rfl (ex_move rfl) ?_
                                          refine JL_bnd fun r490 hr491 => ?_
                                          refine JL_call (wants_some rfl rfl rfl h489) rfl Tryd.call8 rfl (Ca_of0 fun w hh => c_laws_eqInt64S _ w (fun _ hk => hk.elim) _ _ (hh.ow0 4 rfl) _ _ rdNil _ hr491) (fun _ => ?_)
                                          refine JL_q (wants_some rfl rfl rfl h489) rfl (ex_not rfl) ?_
                                          refine JL_q (wants_none rfl) rfl (ex_pick_false rfl h489 rfl) ?_
                                          refine JL_q (wants_none rfl) rfl (ex_move rfl) ?_
                                          refine JL_cond (fun h492 => ?_) (fun h492 => ?_)
                                          · refine JL_passed rfl rfl rfl h492 ?_
                                            refine JL_passed rfl rfl rfl h492 ?_
                                            refine JL_passed rfl rfl rfl h492 ?_
                                            refine JL_q (wants_none rfl) rfl (ex_pick_true rfl h492 rfl) ?_
                                            refine JL_nil ?_
                                            refine N_then ?_
                                            refine J_if_true rfl rfl ?_
                                            refine J_seq ?_
                                            refine J_region ?_
                                            refine JL_q (wants_none rfl) rfl (ex_assign rfl) ?_
                                            refine JL_nil ?_
                                            refine N_then ?_
                                            refine J_ret ?_
                                            refine N_mid_ret ?_
                                            refine N_then_ret ?_
                                            exact N_ret1 rfl (rv_tmp rfl) (fun w hh => ⟨(), rfl, hh.sel [] rfl⟩)
                                          · refine JL_q (wants_some rfl rfl rfl h492) rfl (ex_move rfl) ?_
                                            refine JL_q (wants_some rfl rfl rfl h492) rfl (ex_move rfl) ?_
                                            refine JL_q (wants_some rfl rfl rfl h492) rfl (ex_neq rfl rfl) ?_
                                            refine JL_q (wants_none rfl) rfl (ex_pick_false rfl h492 rfl) ?_
                                            refine JL_nil ?_
                                            refine N_then ?_
                                            refine J_if rfl (fun h493 => ?_) (fun h493 => ?_)
                                            · refine J_seq ?_
                                              refine J_region ?_
                                              refine JL_q (wants_none rfl) rfl (ex_assign rfl) ?_
                                              refine JL_nil ?_
                                              refine N_then ?_
                                              refine J_ret ?_
                                              refine N_mid_ret ?_
                                              refine N_then_ret ?_
                                              exact N_ret1 rfl (rv_tmp rfl) (fun w hh => ⟨(), rfl, hh.sel [] rfl⟩)
                                            · refine J_skip ?_
                                              exact N_meet' () ⟨rfl, rfl, rfl, rfl, rfl, rfl, trivial⟩ [2, 4] rfl rfl
                                      · refine N_then ?_
                                        refine J_seq ?_
                                        refine J_region ?_
                                        refine JL_q (wants_none rfl) rfl (ex_assign rfl) ?_
                                        refine JL_nil ?_
                                        refine N_then ?_
                                        refine J_seq ?_
                                        refine J_region ?_
                                        refine JL_q (wants_none rfl) rfl (ex_move rfl) ?_
                                        refine JL_q (wants_none rfl) rfl (ex_move rfl) ?_
                                        refine JL_bnd fun r494 hr495 => ?_
                                        refine JL_ctx (fun w hh => hh.tokf 1 rfl rfl) ?_
                                        refine JL_mark 0 [] mk_laws_markInt64S (wants_none rfl) rfl Tryd.call11 rfl rfl rfl rfl ((SH.start hA).start_rd rfl hp0) rfl hr495 ?_
                                        refine JL_q (wants_none rfl) rfl (ex_assign rfl) ?_
                                        refine JL_nil ?_
                                        refine N_then ?_
                                        refine J_seq ?_
                                        refine J_region ?_
                                        refine JL_q (wants_none rfl) rfl (ex_assign rfl) ?_
                                        refine JL_nil ?_
                                        refine N_then ?_
                                        refine J_seq ?_
                                        refine J_region ?_
                                        refine JL_q (wants_none rfl) rfl (ex_move rfl) ?_
                                        refine JL_q (wants_none rfl) rfl (ex_move rfl) ?_
                                        refine JL_bnd fun r496 hr497 => ?_
                                        refine JL_call (wants_none rfl) rfl Tryd.call12 rfl (Ca_of0 fun w hh => c_laws_heldInt64S _ w (fun _ hk => hk.elim) _ _ (hh.rd0 0 rfl) _ _ hr497) (fun _ => ?_)
                                        refine JL_q (wants_none rfl) rfl (ex_assign rfl) ?_
                                        refine JL_nil ?_
                                        refine N_then ?_
                                        refine J_seq ?_
                                        refine J_seq ?_
                                        refine J_region ?_
                                        refine JL_q (wants_none rfl) rfl (ex_move rfl) ?_
                                        refine JL_q (wants_none rfl) rfl (ex_lss rfl rfl) ?_
                                        refine JL_nil ?_
                                        refine N_then ?_
                                        refine J_if rfl (fun h498 => ?_) (fun h498 => ?_)
                                        · refine J_seq ?_
                                          refine J_region ?_
                                          refine JL_q (wants_none rfl) rfl (ex_assign rfl) ?_
                                          refine JL_nil ?_
                                          refine N_then ?_
                                          refine J_ret ?_
                                          refine N_then_ret ?_
                                          exact N_ret1 rfl (rv_tmp rfl) (fun w hh => ⟨(), rfl, hh.sel [] rfl⟩)
                                        · refine J_skip ?_
                                          refine N_then ?_
                                          refine J_seq ?_
                                          refine J_seq ?_
                                          refine J_region ?_
                                          refine JL_q (wants_none rfl) rfl (ex_move rfl) ?_
                                          refine JL_q (wants_none rfl) rfl (ex_move rfl) ?_
                                          refine JL_q (wants_none rfl) rfl (ex_neq rfl rfl) ?_
                                          refine JL_nil ?_
                                          refine N_then ?_
                                          refine J_if rfl (fun h499 => ?_) (fun h499 => ?_)
                                          · refine J_seq ?_
                                            refine J_region ?_
                                            refine JL_q (wants_none rfl) rfl (ex_assign rfl) ?_
                                            refine JL_nil ?_
                                            refine N_then ?_
                                            refine J_ret ?_
                                            refine N_then_ret ?_
                                            exact N_ret1 rfl (rv_tmp rfl) (fun w hh => ⟨(), rfl, hh.sel [] rfl⟩)
                                          · refine J_skip ?_
                                            refine N_then ?_
                                            refine J_seq ?_
                                            refine J_region ?_
                                            refine JL_q (wants_none rfl) rfl (ex_move rfl) ?_
                                            refine JL_bnd fun r500 hr501 => ?_
                                            refine JL_call (wants_none rfl) rfl Tryd.call6 rfl (Ca_self (fun _ => rfl) fun w hh => c_laws_toDominoS _ w (fun _ hk => hk.elim) _ _ (hh.rd0 2 rfl) _ hr501) (fun x502 => ?_)
                                            obtain ⟨x502_0, x502_1⟩ := x502
                                            refine JL_q (wants_none rfl) rfl (ex_move rfl) ?_
                                            refine JL_q (wants_none rfl) rfl (ex_move rfl) ?_
                                            refine JL_bnd fun r503 hr504 => ?_
                                            refine JL_call (wants_none rfl) rfl Tryd.call7 rfl (Ca_self (fun _ => rfl) fun w hh => c_impl_SolveDominoes _ w (fun _ hk => hk.elim) (Stn.of hT_ hh) _ _ (hh.od0 0 rfl) _ _ _ hr504) (fun x505 => ?_)
                                            refine JL_q (wants_none rfl) rfl (ex_move rfl) ?_
                                            refine JL_q (wants_none rfl) rfl (ex_extract rfl rfl) ?_
                                            refine JL_q (wants_none rfl) rfl (ex_extract rfl rfl) ?_
                                            refine JL_q (wants_none rfl) rfl (ex_assign rfl) ?_
                                            refine JL_q (wants_none rfl) rfl (ex_assign rfl) ?_
                                            refine JL_nil ?_
                                            refine N_then ?_
                                            refine J_seq ?_
                                            refine J_seq ?_
                                            refine J_region ?_
                                            refine JL_q (wants_none rfl) rfl (ex_move rfl) ?_
                                            refine JL_q (wants_none rfl) rfl (ex_move rfl) ?_
                                            refine JL_bnd fun r506 hr507 => ?_
                                            refine JL_call (wants_none rfl) rfl Tryd.call8 rfl (Ca_of0 fun w hh => c_laws_eqInt64S _ w (fun _ hk => hk.elim) _ _ (hh.ow0 0 rfl) _ _ rdNil _ hr507) (fun _ => ?_)
                                            refine JL_q (wants_none rfl) rfl (ex_not rfl) ?_
                                            refine JL_q (wants_none rfl) rfl (ex_move rfl) ?_
                                            refine JL_cond (fun h508 => ?_) (fun h508 => ?_)
                                            · refine JL_passed rfl rfl rfl h508 ?_
                                              refine JL_passed rfl rfl rfl h508 ?_
                                              refine JL_passed rfl rfl rfl h508 ?_
                                              refine JL_q (wants_none rfl) rfl (ex_pick_true rfl h508 rfl) ?_
                                              refine JL_nil ?_
                                              refine N_then ?_
                                              refine J_if_true rfl rfl ?_
                                              refine J_seq ?_
                                              refine J_region ?_
                                              refine JL_q (wants_none rfl) rfl (ex_assign rfl) ?_
                                              refine JL_nil ?_
                                              refine N_then ?_
                                              refine J_ret ?_
                                              refine N_then_ret ?_
                                              exact N_ret1 rfl (rv_tmp rfl) (fun w hh => ⟨(), rfl, hh.sel [] rfl⟩)
                                            · refine JL_q (wants_some rfl rfl rfl h508) rfl (ex_move rfl) ?_
                                              refine JL_q (wants_some rfl rfl rfl h508) rfl (ex_move rfl) ?_
                                              refine JL_q (wants_some rfl rfl rfl h508) rfl (ex_neq rfl rfl) ?_
                                              refine JL_q (wants_none rfl) rfl (ex_pick_false rfl h508 rfl) ?_
                                              refine JL_nil ?_
                                              refine N_then ?_
                                              refine J_if rfl (fun h509 => ?_) (fun h509 => ?_)
                                              · refine J_seq ?_
                                                refine J_region ?_
                                                refine JL_q (wants_none rfl) rfl (ex_assign rfl) ?_
                                                refine JL_nil ?_
                                                refine N_then ?_
                                                refine J_ret ?_
                                                refine N_then_ret ?_
                                                exact N_ret1 rfl (rv_tmp rfl) (fun w hh => ⟨(), rfl, hh.sel [] rfl⟩)
                                              · refine J_skip ?_
                                                refine N_then ?_
                                                refine J_seq ?_
                                                refine J_region ?_
                                                refine JL_q (wants_none rfl) rfl (ex_assign rfl) ?_
                                                refine JL_nil ?_
                                                refine N_then ?_
                                                refine J_seq ?_
                                                refine J_region ?_
                                                refine JL_q (wants_none rfl) rfl (ex_move rfl) ?_
                                                refine JL_q (wants_none rfl) rfl (ex_move rfl) ?_
                                                refine JL_bnd fun r510 hr511 => ?_
                                                refine JL_call (wants_none rfl) rfl Tryd.call12 rfl (Ca_of0 fun w hh => c_laws_heldInt64S _ w (fun _ hk => hk.elim) _ _ (hh.rd0 2 rfl) _ _ hr511) (fun _ => ?_)
                                                refine JL_q (wants_none rfl) rfl (ex_assign rfl) ?_
                                                refine JL_nil ?_
                                                refine N_then ?_
                                                refine J_seq ?_
                                                refine J_seq ?_
                                                refine J_region ?_
                                                refine JL_q (wants_none rfl) rfl (ex_move rfl) ?_
                                                refine JL_q (wants_none rfl) rfl (ex_lss rfl rfl) ?_
                                                refine JL_nil ?_
                                                refine N_then ?_
                                                refine J_if rfl (fun h512 => ?_) (fun h512 => ?_)
                                                · refine J_seq ?_
                                                  refine J_region ?_
                                                  refine JL_q (wants_none rfl) rfl (ex_assign rfl) ?_
                                                  refine JL_nil ?_
                                                  refine N_then ?_
                                                  refine J_ret ?_
                                                  refine N_then_ret ?_
                                                  exact N_ret1 rfl (rv_tmp rfl) (fun w hh => ⟨(), rfl, hh.sel [] rfl⟩)
                                                · refine J_skip ?_
                                                  refine N_then ?_
                                                  refine J_seq ?_
                                                  refine J_seq ?_
                                                  refine J_region ?_
                                                  refine JL_q (wants_none rfl) rfl (ex_move rfl) ?_
                                                  refine JL_q (wants_none rfl) rfl (ex_move rfl) ?_
                                                  refine JL_q (wants_none rfl) rfl (ex_neq rfl rfl) ?_
                                                  refine JL_nil ?_
                                                  refine N_then ?_
                                                  refine J_if rfl (fun h513 => ?_) (fun h513 => ?_)
                                                  · refine J_seq ?_
                                                    refine J_region ?_
                                                    refine JL_q (wants_none rfl) rfl (ex_assign rfl) ?_
                                                    refine JL_nil ?_
                                                    refine N_then ?_
                                                    refine J_ret ?_
                                                    refine N_then_ret ?_
                                                    exact N_ret1 rfl (rv_tmp rfl) (fun w hh => ⟨(), rfl, hh.sel [] rfl⟩)
                                                  · refine J_skip ?_
                                                    refine N_then ?_
                                                    refine J_seq ?_
                                                    refine J_region ?_
                                                    refine JL_q (wants_none rfl) rfl (ex_assign rfl) ?_
                                                    refine JL_nil ?_
                                                    refine N_then ?_
                                                    refine J_ret ?_
                                                    exact N_ret1 rfl (rv_tmp rfl) (fun w hh => ⟨(), rfl, hh.sel [] rfl⟩)
                                · refine J_skip ?_
                                  refine N_block ?_
                                  refine N_then ?_
                                  refine J_region ?_
                                  refine JL_q (wants_none rfl) rfl (ex_move rfl) ?_
                                  refine JL_q (wants_none rfl) rfl (ex_add rfl rfl) ?_
                                  refine JL_q (wants_none rfl) rfl (ex_assign rfl) ?_
                                  refine JL_nil ?_
                                  exact N_next' v465 ⟨rfl, rfl, rfl, rfl, rfl, rfl, rfl, trivial⟩ [1, 2, 5] rfl rfl
                · refine J_exit ?_
                  refine N_then_exit ?_
                  exact N_break' g214 ⟨rfl, rfl, rfl, rfl, rfl, rfl, rfl, trivial⟩ [0, 1, 2] rfl rfl
              · refine N_block ?_
                refine N_then ?_
                refine J_region ?_
                refine JL_q (wants_none rfl) rfl (ex_move rfl) ?_
                refine JL_q (wants_none rfl) rfl (ex_add rfl rfl) ?_
                refine JL_q (wants_none rfl) rfl (ex_assign rfl) ?_
                refine JL_nil ?_
                exact N_next' g214 ⟨rfl, rfl, rfl, rfl, rfl, rfl, trivial⟩ [0, 1, 2] rfl rfl
          · refine J_exit ?_
            refine N_then_exit ?_
            exact N_break' g163 ⟨rfl, rfl, rfl, rfl, rfl, rfl, trivial⟩ [0, 1, 2] rfl rfl
        · refine N_then ?_
          refine J_seq ?_
          refine J_seq ?_
          refine J_region ?_
          refine JL_q (wants_none rfl) rfl (ex_move rfl) ?_
          refine JL_q (wants_none rfl) rfl (ex_not rfl) ?_
          refine JL_nil ?_
          refine N_then ?_
          refine J_if rfl (fun h514 => ?_) (fun h514 => ?_)
          · refine J_seq ?_
            refine J_region ?_
            refine JL_q (wants_none rfl) rfl (ex_assign rfl) ?_
            refine JL_q (wants_none rfl) rfl (ex_assign rfl) ?_
            refine JL_nil ?_
            refine N_then ?_
            refine J_ret ?_
            refine N_then_ret ?_
            refine N_inl2 hK160 rfl (rv_tmp rfl) (rv_tmp rfl) ?_
            refine JL_q (wants_none rfl) rfl (ex_extract rfl rfl) ?_
            refine JL_q (wants_none rfl) rfl (ex_extract rfl rfl) ?_
            refine JL_q (wants_none rfl) rfl (ex_assign rfl) ?_
            refine JL_q (wants_none rfl) rfl (ex_assign rfl) ?_
            refine JL_nil ?_
            refine N_then ?_
            refine J_ret ?_
            refine N_inl2 hK7 rfl (rv_tmp rfl) (rv_tmp rfl) ?_
            refine JL_q (wants_none rfl) rfl (ex_move rfl) ?_
            refine JL_q (wants_none rfl) rfl (ex_extract rfl rfl) ?_
            refine JL_q (wants_none rfl) rfl (ex_extract rfl rfl) ?_
            refine JL_q (wants_none rfl) rfl (ex_assign rfl) ?_
            refine JL_q (wants_none rfl) rfl (ex_assign rfl) ?_
            refine JL_nil ?_
            refine N_then ?_
            refine J_seq ?_
            refine J_region ?_
            refine JL_q (wants_none rfl) rfl (ex_move rfl) ?_
            refine JL_bnd fun r515 hr516 => ?_
            refine JL_call (wants_none rfl) rfl Tryd.call6 rfl (Ca_self (fun _ => rfl) fun w hh => c_laws_toDominoS _ w (fun _ hk => hk.elim) _ _ (hh.rd0 2 rfl) _ hr516) (fun x517 => ?_)
            obtain ⟨x517_0, x517_1⟩ := x517
            refine JL_q (wants_none rfl) rfl (ex_assign rfl) ?_
            refine JL_nil ?_
            refine N_then ?_
            refine J_seq ?_
            refine J_region ?_
            refine JL_q (wants_none rfl) rfl (ex_move rfl) ?_
            refine JL_q (wants_none rfl) rfl (ex_move rfl) ?_
            refine JL_q (wants_none rfl) rfl (ex_move rfl) ?_
            refine JL_bnd fun r518 hr519 => ?_
            refine JL_call (wants_none rfl) rfl Tryd.call7 rfl (Ca_self (fun _ => rfl) fun w hh => c_impl_SolveDominoes _ w (fun _ hk => hk.elim) (Stn.of hT_ hh) _ _ (hh.od0 0 rfl) _ _ _ hr519) (fun x520 => ?_)
            refine JL_q (wants_none rfl) rfl (ex_move rfl) ?_
            refine JL_q (wants_none rfl) rfl (ex_extract rfl rfl) ?_
            refine JL_q (wants_none rfl) rfl (ex_extract rfl rfl) ?_
            refine JL_q (wants_none rfl) rfl (ex_assign rfl) ?_
            refine JL_q (wants_none rfl) rfl (ex_assign rfl) ?_
            refine JL_nil ?_
            refine N_then ?_
            refine J_seq ?_
            refine J_cut' (S' := Unit) (G' := Unit) (fun _ _ => [(0, v0_), (1, .int .i64 p1), (2, .int .i64 p2), (8, .slice none 0 0), (9, .int .i64 5), (10, x517_0), (11, x520), (12, .int .i64 r518.2)]) (fun _ _ => [.rd v0_ p0, .od 40 x517_0 r515 x517_1, .ow 2 x520 r518.1]) ?_ (fun s521 g522 => ?_)
            · refine J_seq ?_
              refine J_region ?_
              refine JL_q (wants_none rfl) rfl (ex_move rfl) ?_
              refine JL_q (wants_none rfl) rfl (ex_move rfl) ?_
              refine JL_bnd fun r523 hr524 => ?_
              refine JL_call (wants_none rfl) rfl Tryd.call8 rfl (Ca_of0 fun w hh => c_laws_eqInt64S _ w (fun _ hk => hk.elim) _ _ (hh.ow0 0 rfl) _ _ rdNil _ hr524) (fun _ => ?_)
              refine JL_q (wants_none rfl) rfl (ex_not rfl) ?_
              refine JL_q (wants_none rfl) rfl (ex_move rfl) ?_
              refine JL_cond (fun h525 => ?_) (fun h525 => ?_)
              · refine JL_passed rfl rfl rfl h525 ?_
                refine JL_passed rfl rfl rfl h525 ?_
                refine JL_passed rfl rfl rfl h525 ?_
                refine JL_q (wants_none rfl) rfl (ex_pick_true rfl h525 rfl) ?_
                refine JL_nil ?_
                refine N_then ?_
                refine J_if_true rfl rfl ?_
                refine J_seq ?_
                refine J_region ?_
                refine JL_q (wants_none rfl) rfl (ex_assign rfl) ?_
                refine JL_nil ?_
                refine N_then ?_
                refine J_ret ?_
                refine N_mid_ret ?_
                refine N_then_ret ?_
                exact N_ret1 rfl (rv_tmp rfl) (fun w hh => ⟨(), rfl, hh.sel [] rfl⟩)
              · refine JL_q (wants_some rfl rfl rfl h525) rfl (ex_move rfl) ?_
                refine JL_q (wants_some rfl rfl rfl h525) rfl (ex_move rfl) ?_
                refine JL_q (wants_some rfl rfl rfl h525) rfl (ex_neq rfl rfl) ?_
                refine JL_q (wants_none rfl) rfl (ex_pick_false rfl h525 rfl) ?_
                refine JL_nil ?_
                refine N_then ?_
                refine J_if rfl (fun h526 => ?_) (fun h526 => ?_)
                · refine J_seq ?_
                  refine J_region ?_
                  refine JL_q (wants_none rfl) rfl (ex_assign rfl) ?_
                  refine JL_nil ?_
                  refine N_then ?_
                  refine J_ret ?_
                  refine N_mid_ret ?_
                  refine N_then_ret ?_
                  exact N_ret1 rfl (rv_tmp rfl) (fun w hh => ⟨(), rfl, hh.sel [] rfl⟩)
                · refine J_skip ?_
                  exact N_meet' () ⟨rfl, rfl, rfl, rfl, rfl, rfl, rfl, rfl, trivial⟩ [4, 1, 0] rfl rfl
            · refine N_then ?_
              refine J_seq ?_
              refine J_seq ?_
              refine J_region ?_
              refine JL_q (wants_none rfl) rfl (ex_move rfl) ?_
              refine JL_q (wants_none rfl) rfl (ex_move rfl) ?_
              refine JL_bnd fun r527 hr528 => ?_
              refine JL_call (wants_none rfl) rfl Tryd.call6 rfl (Ca_self (fun _ => rfl) fun w hh => c_laws_toDominoS _ w (fun _ hk => hk.elim) _ _ (hh.rd0 0 rfl) _ hr528) (fun x529 => ?_)
              obtain ⟨x529_0, x529_1⟩ := x529
              refine JL_bnd fun r530 hr531 => ?_
              refine JL_call (wants_none rfl) rfl Tryd.call9 rfl (Ca_of0 fun w hh => c_laws_eqDominoS _ w (fun _ hk => hk.elim) _ _ (hh.od0 2 rfl) _ _ (hh.od0 0 rfl) _ hr531) (fun _ => ?_)
              refine JL_q (wants_none rfl) rfl (ex_not rfl) ?_
              refine JL_nil ?_
              refine N_then ?_
              refine J_if rfl (fun h532 => ?_) (fun h532 => ?_)
              · refine J_seq ?_
                refine J_region ?_
                refine JL_q (wants_none rfl) rfl (ex_assign rfl) ?_
                refine JL_nil ?_
                refine N_then ?_
                refine J_ret ?_
                refine N_then_ret ?_
                exact N_ret1 rfl (rv_tmp rfl) (fun w hh => ⟨(), rfl, hh.sel [] rfl⟩)
              · refine J_skip ?_
                refine N_then ?_
                refine J_seq ?_
                refine J_region ?_
                refine JL_q (wants_none rfl) rfl (ex_assign rfl) ?_
                refine JL_nil ?_
                refine N_then ?_
                refine J_seq ?_
                refine J_region ?_
                refine JL_q (wants_none rfl) rfl (ex_move rfl) ?_
                refine JL_q (wants_none rfl) rfl (ex_move rfl) ?_
                refine JL_bnd fun r533 hr534 => ?_
                refine JL_ctx (fun w hh => hh.tok 2 rfl) ?_
                refine JL_mark 0 [1, 4] mk_laws_markDominoS (wants_none rfl) rfl Tryd.call10 rfl rfl rfl rfl ((SH.start hA).start_rd rfl hp0) rfl hr534 ?_
                refine JL_q (wants_none rfl) rfl (ex_assign rfl) ?_
                refine JL_nil ?_
                refine N_then ?_
                refine J_seq ?_
                refine J_cut' (S' := Unit) (G' := Unit) (fun _ _ => [(0, v0_), (1, .int .i64 p1), (2, .int .i64 p2), (8, .slice none 0 0), (9, .int .i64 5), (11, x520)]) (fun _ _ => [.rd v0_ p0, .ow 2 x520 r518.1]) ?_ (fun s535 g536 => ?_)
                · refine J_seq ?_
                  refine J_region ?_
                  refine JL_q (wants_none rfl) rfl (ex_move rfl) ?_
                  refine JL_q (wants_none rfl) rfl (ex_lss rfl rfl) ?_
                  refine JL_q (wants_none rfl) rfl (ex_move rfl) ?_
                  refine JL_cond (fun h537 => ?_) (fun h537 => ?_)
                  · refine JL_passed rfl rfl rfl h537 ?_
                    refine JL_passed rfl rfl rfl h537 ?_
                    refine JL_passed rfl rfl rfl h537 ?_
                    refine JL_passed rfl rfl rfl h537 ?_
                    refine JL_q (wants_none rfl) rfl (ex_pick_true rfl h537 rfl) ?_
                    refine JL_q (wants_none rfl) rfl (ex_move rfl) ?_
                    refine JL_passed rfl rfl rfl rfl ?_
                    refine JL_passed rfl rfl rfl rfl ?_
                    refine JL_passed rfl rfl rfl rfl ?_
                    refine JL_q (wants_none rfl) rfl (ex_pick_true rfl rfl rfl) ?_
                    refine JL_nil ?_
                    refine N_then ?_
                    refine J_if_true rfl rfl ?_
                    refine J_seq ?_
                    refine J_region ?_
                    refine JL_q (wants_none rfl) rfl (ex_assign rfl) ?_
                    refine JL_nil ?_
                    refine N_then ?_
                    refine J_ret ?_
                    refine N_mid_ret ?_
                    refine N_then_ret ?_
                    exact N_ret1 rfl (rv_tmp rfl) (fun w hh => ⟨(), rfl, hh.sel [] rfl⟩)
                  · refine JL_q (wants_some rfl rfl rfl h537) rfl (ex_move rfl) ?_
                    refine JL_q (wants_some rfl rfl rfl h537) rfl (ex_move rfl) ?_
                    refine JL_bnd fun r538 hr539 => ?_
                    refine JL_call (wants_some rfl rfl rfl h537) rfl Tryd.call8 rfl (Ca_of0 fun w hh => c_laws_eqInt64S _ w (fun _ hk => hk.elim) _ _ (hh.ow0 4 rfl) _ _ rdNil _ hr539) (fun _ => ?_)
                    refine JL_q (wants_some rfl rfl rfl h537) rfl (ex_not rfl) ?_
                    refine JL_q (wants_none rfl) rfl (ex_pick_false rfl h537 rfl) ?_
                    refine JL_q (wants_none rfl) rfl (ex_move rfl) ?_
                    refine JL_cond (fun h540 => ?_) (fun h540 => ?_)
                    · refine JL_passed rfl rfl rfl h540 ?_
                      refine JL_passed rfl rfl rfl h540 ?_
                      refine JL_passed rfl rfl rfl h540 ?_
                      refine JL_q (wants_none rfl) rfl (ex_pick_true rfl h540 rfl) ?_
                      refine JL_nil ?_
                      refine N_then ?_
                      refine J_if_true rfl rfl ?_
                      refine J_seq ?_
                      refine J_region ?_
                      refine JL_q (wants_none rfl) rfl (ex_assign rfl) ?_
                      refine JL_nil ?_
                      refine N_then ?_
                      refine J_ret ?_
                      refine N_mid_ret ?_
                      refine N_then_ret ?_
                      exact N_ret1 rfl (rv_tmp rfl) (fun w hh => ⟨(), rfl, hh.sel [] rfl⟩)
                    · refine JL_q (wants_some rfl rfl rfl h540) rfl (ex_move rfl) ?_
                      refine JL_q (wants_some rfl rfl rfl h540) rfl (ex_move rfl) ?_
                      refine JL_q (wants_some rfl rfl rfl h540) rfl (ex_neq rfl rfl) ?_
                      refine JL_q (wants_none rfl) rfl (ex_pick_false rfl h540 rfl) ?_
                      refine JL_nil ?_
                      refine N_then ?_
                      refine J_if rfl (fun h541 => ?_) (fun h541 => ?_)
                      · refine J_seq ?_
                        refine J_region ?_
                        refine JL_q (wants_none rfl) rfl (ex_assign rfl) ?_
                        refine JL_nil ?_
                        refine N_then ?_
                        refine J_ret ?_
                        refine N_mid_ret ?_
                        refine N_then_ret ?_
                        exact N_ret1 rfl (rv_tmp rfl) (fun w hh => ⟨(), rfl, hh.sel [] rfl⟩)
                      · refine J_skip ?_
                        exact N_meet' () ⟨rfl, rfl, rfl, rfl, rfl, rfl, trivial⟩ [2, 4] rfl rfl
                · refine N_then ?_
                  refine J_seq ?_
                  refine J_region ?_
                  refine JL_q (wants_none rfl) rfl (ex_assign rfl) ?_
                  refine JL_nil ?_
                  refine N_then ?_
                  refine J_seq ?_
                  refine J_region ?_
                  refine JL_q (wants_none rfl) rfl (ex_move rfl) ?_
                  refine JL_q (wants_none rfl) rfl (ex_move rfl) ?_
                  refine JL_bnd fun r542 hr543 => ?_
                  refine JL_ctx (fun w hh => hh.tokf 1 rfl rfl) ?_
                  refine JL_mark 0 [] mk_laws_markInt64S (wants_none rfl) rfl Tryd.call11 rfl rfl rfl rfl ((SH.start hA).start_rd rfl hp0) rfl hr543 ?_
                  refine JL_q (wants_none rfl) rfl (ex_assign rfl) ?_
                  refine JL_nil ?_
                  refine N_then ?_
                  refine J_seq ?_
                  refine J_region ?_
                  refine JL_q (wants_none rfl) rfl (ex_assign rfl) ?_
                  refine JL_nil ?_
                  refine N_then ?_
                  refine J_seq ?_
                  refine J_region ?_
                  refine JL_q (wants_none rfl) rfl (ex_move rfl) ?_
                  refine JL_q (wants_none rfl) rfl (ex_move rfl) ?_
                  refine JL_bnd fun r544 hr545 => ?_
                  refine JL_call (wants_none rfl) rfl Tryd.call12 rfl (Ca_of0 fun w hh => c_laws_heldInt64S _ w (fun _ hk => hk.elim) _ _ (hh.rd0 0 rfl) _ _ hr545) (fun _ => ?_)
                  refine JL_q (wants_none rfl) rfl (ex_assign rfl) ?_
                  refine JL_nil ?_
                  refine N_then ?_
                  refine J_seq ?_
                  refine J_seq ?_
                  refine J_region ?_
                  refine JL_q (wants_none rfl) rfl (ex_move rfl) ?_
                  refine JL_q (wants_none rfl) rfl (ex_lss rfl rfl) ?_
                  refine JL_nil ?_
                  refine N_then ?_
                  refine J_if rfl (fun h546 => ?_) (fun h546 => ?_)
                  · refine J_seq ?_
                    refine J_region ?_
                    refine JL_q (wants_none rfl) rfl (ex_assign rfl) ?_
                    refine JL_nil ?_
                    refine N_then ?_
                    refine J_ret ?_
                    refine N_then_ret ?_
                    exact N_ret1 rfl (rv_tmp rfl) (fun w hh => ⟨(), rfl, hh.sel [] rfl⟩)
                  · refine J_skip ?_
                    refine N_then ?_
                    refine J_seq ?_
                    refine J_seq ?_
                    refine J_region ?_
                    refine JL_q (wants_none rfl) rfl (ex_move rfl) ?_
                    refine JL_q (wants_none rfl) rfl (ex_move rfl) ?_
                    refine JL_q (wants_none rfl) rfl (ex_neq rfl rfl) ?_
                    refine JL_nil ?_
                    refine N_then ?_
                    refine J_if rfl (fun h547 => ?_) (fun h547 => ?_)
                    · refine J_seq ?_
                      refine J_region ?_
                      refine JL_q (wants_none rfl) rfl (ex_assign rfl) ?_
                      refine JL_nil ?_
                      refine N_then ?_
                      refine J_ret ?_
                      refine N_then_ret ?_
                      exact N_ret1 rfl (rv_tmp rfl) (fun w hh => ⟨(), rfl, hh.sel [] rfl⟩)
                    · refine J_skip ?_
                      refine N_then ?_
                      refine J_seq ?_
                      refine J_region ?_
                      refine JL_q (wants_none rfl) rfl (ex_move rfl) ?_
                      refine JL_bnd fun r548 hr549 => ?_
                      refine JL_call (wants_none rfl) rfl Tryd.call6 rfl (Ca_self (fun _ => rfl) fun w hh => c_laws_toDominoS _ w (fun _ hk => hk.elim) _ _ (hh.rd0 2 rfl) _ hr549) (fun x550 => ?_)
                      obtain ⟨x550_0, x550_1⟩ := x550
                      refine JL_q (wants_none rfl) rfl (ex_move rfl) ?_
                      refine JL_q (wants_none rfl) rfl (ex_move rfl) ?_
                      refine JL_bnd fun r551 hr552 => ?_
                      refine JL_call (wants_none rfl) rfl Tryd.call7 rfl (Ca_self (fun _ => rfl) fun w hh => c_impl_SolveDominoes _ w (fun _ hk => hk.elim) (Stn.of hT_ hh) _ _ (hh.od0 0 rfl) _ _ _ hr552) (fun x553 => ?_)
                      refine JL_q (wants_none rfl) rfl (ex_move rfl) ?_
                      refine JL_q (wants_none rfl) rfl (ex_extract rfl rfl) ?_
                      refine JL_q (wants_none rfl) rfl (ex_extract rfl rfl) ?_
                      refine JL_q (wants_none rfl) rfl (ex_assign rfl) ?_
                      refine JL_q (wants_none rfl) rfl (ex_assign rfl) ?_
                      refine JL_nil ?_
                      refine N_then ?_
                      refine J_seq ?_
                      refine J_seq ?_
                      refine J_region ?_
                      refine JL_q (wants_none rfl) rfl (ex_move rfl) ?_
                      refine JL_q (wants_none rfl) rfl (ex_move rfl) ?_
                      refine JL_bnd fun r554 hr555 => ?_
                      refine JL_call (wants_none rfl) rfl Tryd.call8 rfl (Ca_of0 fun w hh => c_laws_eqInt64S _ w (fun _ hk => hk.elim) _ _ (hh.ow0 0 rfl) _ _ rdNil _ hr555) (fun _ => ?_)
                      refine JL_q (wants_none rfl) rfl (ex_not rfl) ?_
                      refine JL_q (wants_none rfl) rfl (ex_move rfl) ?_
                      refine JL_cond (fun h556 => ?_) (fun h556 => ?_)
                      · refine JL_passed rfl rfl rfl h556 ?_
                        refine JL_passed rfl rfl rfl h556 ?_
                        refine JL_passed rfl rfl rfl h556 ?_
                        refine JL_q (wants_none rfl) rfl (ex_pick_true rfl h556 rfl) ?_
                        refine JL_nil ?_
                        refine N_then ?_
                        refine J_if_true rfl rfl ?_
                        refine J_seq ?_
                        refine J_region ?_
                        refine JL_q (wants_none rfl) rfl (ex_assign rfl) ?_
                        refine JL_nil ?_
                        refine N_then ?_
                        refine J_ret ?_
                        refine N_then_ret ?_
                        exact N_ret1 rfl (rv_tmp rfl) (fun w hh => ⟨(), rfl, hh.sel [] rfl⟩)
                      · refine JL_q (wants_some rfl rfl rfl h556) rfl (ex_move rfl) ?_
                        refine JL_q (wants_some rfl rfl rfl h556) rfl (ex_move rfl) ?_
                        refine JL_q (wants_some rfl rfl rfl h556) rfl (ex_neq rfl rfl) ?_
                        refine JL_q (wants_none rfl) rfl (ex_pick_false rfl h556 rfl) ?_
                        refine JL_nil ?_
                        refine N_then ?_
                        refine J_if rfl (fun h557 => ?_) (fun h557 => ?_)
                        · refine J_seq ?_
                          refine J_region ?_
                          refine JL_q (wants_none rfl) rfl (ex_assign rfl) ?_
                          refine JL_nil ?_
                          refine N_then ?_
                          refine J_ret ?_
                          refine N_then_ret ?_
                          exact N_ret1 rfl (rv_tmp rfl) (fun w hh => ⟨(), rfl, hh.sel [] rfl⟩)
                        · refine J_skip ?_
                          refine N_then ?_
                          refine J_seq ?_
                          refine J_region ?_
                          refine JL_q (wants_none rfl) rfl (ex_assign rfl) ?_
                          refine JL_nil ?_
                          refine N_then ?_
                          refine J_seq ?_
                          refine J_region ?_
                          refine JL_q (wants_none rfl) rfl (ex_move rfl) ?_
                          refine JL_q (wants_none rfl) rfl (ex_move rfl) ?_
                          refine JL_bnd fun r558 hr559 => ?_
                          refine JL_call (wants_none rfl) rfl Tryd.call12 rfl (Ca_of0 fun w hh => c_laws_heldInt64S _ w (fun _ hk => hk.elim) _ _ (hh.rd0 2 rfl) _ _ hr559) (fun _ => ?_)
                          refine JL_q (wants_none rfl) rfl (ex_assign rfl) ?_
                          refine JL_nil ?_
                          refine N_then ?_
                          refine J_seq ?_
                          refine J_seq ?_
                          refine J_region ?_
                          refine JL_q (wants_none rfl) rfl (ex_move rfl) ?_
                          refine JL_q (wants_none rfl) rfl (ex_lss rfl rfl) ?_
                          refine JL_nil ?_
                          refine N_then ?_
                          refine J_if rfl (fun h560 => ?_) (fun h560 => ?_)
                          · refine J_seq ?_
                            refine J_region ?_
                            refine JL_q (wants_none rfl) rfl (ex_assign rfl) ?_
                            refine JL_nil ?_
                            refine N_then ?_
                            refine J_ret ?_
                            refine N_then_ret ?_
                            exact N_ret1 rfl (rv_tmp rfl) (fun w hh => ⟨(), rfl, hh.sel [] rfl⟩)
                          · refine J_skip ?_
                            refine N_then ?_
                            refine J_seq ?_
                            refine J_seq ?_
                            refine J_region ?_
                            refine JL_q (wants_none rfl) rfl (ex_move rfl) ?_
                            refine JL_q (wants_none rfl) rfl (ex_move rfl) ?_
                            refine JL_q (wants_none rfl) rfl (ex_neq rfl rfl) ?_
                            refine JL_nil ?_
                            refine N_then ?_
                            refine J_if rfl (fun h561 => ?_) (fun h561 => ?_)
                            · refine J_seq ?_
                              refine J_region ?_
                              refine JL_q (wants_none rfl) rfl (ex_assign rfl) ?_
                              refine JL_nil ?_
                              refine N_then ?_
                              refine J_ret ?_
                              refine N_then_ret ?_
                              exact N_ret1 rfl (rv_tmp rfl) (fun w hh => ⟨(), rfl, hh.sel [] rfl⟩)
                            · refine J_skip ?_
                              refine N_then ?_
                              refine J_seq ?_
                              refine J_region ?_
                              refine JL_q (wants_none rfl) rfl (ex_assign rfl) ?_
                              refine JL_nil ?_
                              refine N_then ?_
                              refine J_ret ?_
                              exact N_ret1 rfl (rv_tmp rfl) (fun w hh => ⟨(), rfl, hh.sel [] rfl⟩)
          · refine J_skip ?_
            refine N_then ?_
            refine J_seq ?_
            refine J_region ?_
            refine JL_q (wants_none rfl) rfl (ex_assign rfl) ?_
            refine JL_q (wants_none rfl) rfl (ex_assign rfl) ?_
            refine JL_nil ?_
            refine N_then ?_
            refine J_ret ?_
            refine N_inl2 hK160 rfl (rv_tmp rfl) (rv_tmp rfl) ?_
            refine JL_q (wants_none rfl) rfl (ex_extract rfl rfl) ?_
            refine JL_q (wants_none rfl) rfl (ex_extract rfl rfl) ?_
            refine JL_q (wants_none rfl) rfl (ex_assign rfl) ?_
            refine JL_q (wants_none rfl) rfl (ex_assign rfl) ?_
            refine JL_nil ?_
            refine N_then ?_
            refine J_ret ?_
            refine N_inl2 hK7 rfl (rv_tmp rfl) (rv_tmp rfl) ?_
            refine JL_q (wants_none rfl) rfl (ex_move rfl) ?_
            refine JL_q (wants_none rfl) rfl (ex_extract rfl rfl) ?_
            refine JL_q (wants_none rfl) rfl (ex_extract rfl rfl) ?_
            refine JL_q (wants_none rfl) rfl (ex_assign rfl) ?_
            refine JL_q (wants_none rfl) rfl (ex_assign rfl) ?_
            refine JL_nil ?_
            refine N_then ?_
            refine J_seq ?_
            refine J_region ?_
            refine JL_q (wants_none rfl) rfl (ex_move rfl) ?_
            refine JL_bnd fun r562 hr563 => ?_
            refine JL_call (wants_none rfl) rfl Tryd.call6 rfl (Ca_self (fun _ => rfl) fun w hh => c_laws_toDominoS _ w (fun _ hk => hk.elim) _ _ (hh.rd0 2 rfl) _ hr563) (fun x564 => ?_)
            obtain ⟨x564_0, x564_1⟩ := x564
            refine JL_q (wants_none rfl) rfl (ex_assign rfl) ?_
            refine JL_nil ?_
            refine N_then ?_
            refine J_seq ?_
            refine J_region ?_
            refine JL_q (wants_none rfl) rfl (ex_move rfl) ?_
            refine JL_q (wants_none rfl) rfl (ex_move rfl) ?_
            refine JL_q (wants_none rfl) rfl (ex_move rfl) ?_
            refine JL_bnd fun r565 hr566 => ?_
            refine JL_call (wants_none rfl) rfl Tryd.call7 rfl (Ca_self (fun _ => rfl) fun w hh => c_impl_SolveDominoes _ w (fun _ hk => hk.elim) (Stn.of hT_ hh) _ _ (hh.od0 0 rfl) _ _ _ hr566) (fun x567 => ?_)
            refine JL_q (wants_none rfl) rfl (ex_move rfl) ?_
            refine JL_q (wants_none rfl) rfl (ex_extract rfl rfl) ?_
            refine JL_q (wants_none rfl) rfl (ex_extract rfl rfl) ?_
            refine JL_q (wants_none rfl) rfl (ex_assign rfl) ?_
            refine JL_q (wants_none rfl) rfl (ex_assign rfl) ?_
            refine JL_nil ?_
            refine N_then ?_
            refine J_seq ?_
            refine J_cut' (S' := Unit) (G' := Unit) (fun _ _ => [(0, v0_), (1, .int .i64 p1), (2, .int .i64 p2), (8, .slice none 0 0), (9, .int .i64 3), (10, x564_0), (11, x567), (12, .int .i64 r565.2)]) (fun _ _ => [.rd v0_ p0, .od 40 x564_0 r562 x564_1, .ow 2 x567 r565.1]) ?_ (fun s568 g569 => ?_)
            · refine J_seq ?_
              refine J_region ?_
              refine JL_q (wants_none rfl) rfl (ex_move rfl) ?_
              refine JL_q (wants_none rfl) rfl (ex_move rfl) ?_
              refine JL_bnd fun r570 hr571 => ?_
              refine JL_call (wants_none rfl) rfl Tryd.call8 rfl (Ca_of0 fun w hh => c_laws_eqInt64S _ w (fun _ hk => hk.elim) _ _ (hh.ow0 0 rfl) _ _ rdNil _ hr571) (fun _ => ?_)
              refine JL_q (wants_none rfl) rfl (ex_not rfl) ?_
              refine JL_q (wants_none rfl) rfl (ex_move rfl) ?_
              refine JL_cond (fun h572 => ?_) (fun h572 => ?_)
              · refine JL_passed rfl rfl rfl h572 ?_
                refine JL_passed rfl rfl rfl h572 ?_
                refine JL_passed rfl rfl rfl h572 ?_
                refine JL_q (wants_none rfl) rfl (ex_pick_true rfl h572 rfl) ?_
                refine JL_nil ?_
                refine N_then ?_
                refine J_if_true rfl rfl ?_
                refine J_seq ?_
                refine J_region ?_
                refine JL_q (wants_none rfl) rfl (ex_assign rfl) ?_
                refine JL_nil ?_
                refine N_then ?_
                refine J_ret ?_
                refine N_mid_ret ?_
                refine N_then_ret ?_
                exact N_ret1 rfl (rv_tmp rfl) (fun w hh => ⟨(), rfl, hh.sel [] rfl⟩)
              · refine JL_q (wants_some rfl rfl rfl h572) rfl (ex_move rfl) ?_
                refine JL_q (wants_some rfl rfl rfl h572) rfl (ex_move rfl) ?_
                refine JL_q (wants_some rfl rfl rfl h572) rfl (ex_neq rfl rfl) ?_
                refine JL_q (wants_none rfl) rfl (ex_pick_false rfl h572 rfl) ?_
                refine JL_nil ?_
                refine N_then ?_
                refine J_if rfl (fun h573 => ?_) (fun h573 => ?_)
                · refine J_seq ?_
                  refine J_region ?_
                  refine JL_q (wants_none rfl) rfl (ex_assign rfl) ?_
                  refine JL_nil ?_
                  refine N_then ?_
                  refine J_ret ?_
                  refine N_mid_ret ?_
                  refine N_then_ret ?_
                  exact N_ret1 rfl (rv_tmp rfl) (fun w hh => ⟨(), rfl, hh.sel [] rfl⟩)
                · refine J_skip ?_
                  exact N_meet' () ⟨rfl, rfl, rfl, rfl, rfl, rfl, rfl, rfl, trivial⟩ [4, 1, 0] rfl rfl
            · refine N_then ?_
              refine J_seq ?_
              refine J_seq ?_
              refine J_region ?_
              refine JL_q (wants_none rfl) rfl (ex_move rfl) ?_
              refine JL_q (wants_none rfl) rfl (ex_move rfl) ?_
              refine JL_bnd fun r574 hr575 => ?_
              refine JL_call (wants_none rfl) rfl Tryd.call6 rfl (Ca_self (fun _ => rfl) fun w hh => c_laws_toDominoS _ w (fun _ hk => hk.elim) _ _ (hh.rd0 0 rfl) _ hr575) (fun x576 => ?_)
              obtain ⟨x576_0, x576_1⟩ := x576
              refine JL_bnd fun r577 hr578 => ?_
              refine JL_call (wants_none rfl) rfl Tryd.call9 rfl (Ca_of0 fun w hh => c_laws_eqDominoS _ w (fun _ hk => hk.elim) _ _ (hh.od0 2 rfl) _ _ (hh.od0 0 rfl) _ hr578) (fun _ => ?_)
              refine JL_q (wants_none rfl) rfl (ex_not rfl) ?_
              refine JL_nil ?_
              refine N_then ?_
              refine J_if rfl (fun h579 => ?_) (fun h579 => ?_)
              · refine J_seq ?_
                refine J_region ?_
                refine JL_q (wants_none rfl) rfl (ex_assign rfl) ?_
                refine JL_nil ?_
                refine N_then ?_
                refine J_ret ?_
                refine N_then_ret ?_
                exact N_ret1 rfl (rv_tmp rfl) (fun w hh => ⟨(), rfl, hh.sel [] rfl⟩)
              · refine J_skip ?_
                refine N_then ?_
                refine J_seq ?_
                refine J_region ?_
                refine JL_q (wants_none rfl) rfl (ex_assign rfl) ?_
                refine JL_nil ?_
                refine N_then ?_
                refine J_seq ?_
                refine J_region ?_
                refine JL_q (wants_none rfl) rfl (ex_move rfl) ?_
                refine JL_q (wants_none rfl) rfl (ex_move rfl) ?_
                refine JL_bnd fun r580 hr581 => ?_
                refine JL_ctx (fun w hh => hh.tok 2 rfl) ?_
                refine JL_mark 0 [1, 4] mk_laws_markDominoS (wants_none rfl) rfl Tryd.call10 rfl rfl rfl rfl ((SH.start hA).start_rd rfl hp0) rfl hr581 ?_
                refine JL_q (wants_none rfl) rfl (ex_assign rfl) ?_
                refine JL_nil ?_
                refine N_then ?_
                refine J_seq ?_
                refine J_cut' (S' := Unit) (G' := Unit) (fun _ _ => [(0, v0_), (1, .int .i64 p1), (2, .int .i64 p2), (8, .slice none 0 0), (9, .int .i64 3), (11, x567)]) (fun _ _ => [.rd v0_ p0, .ow 2 x567 r565.1]) ?_ (fun s582 g583 => ?_)
                · refine J_seq ?_
                  refine J_region ?_
                  refine JL_q (wants_none rfl) rfl (ex_move rfl) ?_
                  refine JL_q (wants_none rfl) rfl (ex_lss rfl rfl) ?_
                  refine JL_q (wants_none rfl) rfl (ex_move rfl) ?_
                  refine JL_cond (fun h584 => ?_) (fun h584 => ?_)
                  · refine JL_passed rfl rfl rfl h584 ?_
                    refine JL_passed rfl rfl rfl h584 ?_
                    refine JL_passed rfl rfl rfl h584 ?_
                    refine JL_passed rfl rfl rfl h584 ?_
                    refine JL_q (wants_none rfl) rfl (ex_pick_true rfl h584 rfl) ?_
                    refine JL_q (wants_none rfl) rfl (ex_move rfl) ?_
                    refine JL_passed rfl rfl rfl rfl ?_
                    refine JL_passed rfl rfl rfl rfl ?_
                    refine JL_passed rfl rfl rfl rfl ?_
                    refine JL_q (wants_none rfl) rfl (ex_pick_true rfl rfl rfl) ?_
                    refine JL_nil ?_
                    refine N_then ?_
                    refine J_if_true rfl rfl ?_
                    refine J_seq ?_
                    refine J_region ?_
                    refine JL_q (wants_none rfl) rfl (ex_assign rfl) ?_
                    refine JL_nil ?_
                    refine N_then ?_
                    refine J_ret ?_
                    refine N_mid_ret ?_
                    refine N_then_ret ?_
                    exact N_ret1 rfl (rv_tmp rfl) (fun w hh => ⟨(), rfl, hh.sel [] rfl⟩)
                  · refine JL_q (wants_some rfl rfl rfl h584) rfl (ex_move rfl) ?_
                    refine JL_q (wants_some rfl rfl rfl h584) rfl (ex_move rfl) ?_
                    refine JL_bnd fun r585 hr586 => ?_
                    refine JL_call (wants_some rfl rfl rfl h584) rfl Tryd.call8 rfl (Ca_of0 fun w hh => c_laws_eqInt64S _ w (fun _ hk => hk.elim) _ _ (hh.ow0 4 rfl) _ _ rdNil _ hr586) (fun _ => ?_)
                    refine JL_q (wants_some rfl rfl rfl h584) rfl (ex_not rfl) ?_
                    refine JL_q (wants_none rfl) rfl (ex_pick_false rfl h584 rfl) ?_
                    refine JL_q (wants_none rfl) rfl (ex_move rfl) ?_
                    refine JL_cond (fun h587 => ?_) (fun h587 => ?_)
                    · refine JL_passed rfl rfl rfl h587 ?_
                      refine JL_passed rfl rfl rfl h587 ?_
                      refine JL_passed rfl rfl rfl h587 ?_
                      refine JL_q (wants_none rfl) rfl (ex_pick_true rfl h587 rfl) ?_
                      refine JL_nil ?_
                      refine N_then ?_
                      refine J_if_true rfl rfl ?_
                      refine J_seq ?_
                      refine J_region ?_
                      refine JL_q (wants_none rfl) rfl (ex_assign rfl) ?_
                      refine JL_nil ?_
                      refine N_then ?_
                      refine J_ret ?_
                      refine N_mid_ret ?_
                      refine N_then_ret ?_
                      exact N_ret1 rfl (rv_tmp rfl) (fun w hh => ⟨(), rfl, hh.sel [] rfl⟩)
                    · refine JL_q (wants_some rfl rfl rfl h587) rfl (ex_move rfl) ?_
                      refine JL_q (wants_some rfl rfl rfl h587) rfl (ex_move rfl) ?_
                      refine JL_q (wants_some rfl rfl rfl h587) rfl (ex_neq rfl rfl) ?_
                      refine JL_q (wants_none rfl) rfl (ex_pick_false rfl h587 rfl) ?_
                      refine JL_nil ?_
                      refine N_then ?_
                      refine J_if rfl (fun h588 => ?_) (fun h588 => ?_)
                      · refine J_seq ?_
                        refine J_region ?_
                        refine JL_q (wants_none rfl) rfl (ex_assign rfl) ?_
                        refine JL_nil ?_
                        refine N_then ?_
                        refine J_ret ?_
                        refine N_mid_ret ?_
                        refine N_then_ret ?_
                        exact N_ret1 rfl (rv_tmp rfl) (fun w hh => ⟨(), rfl, hh.sel [] rfl⟩)
                      · refine J_skip ?_
                        exact N_meet' () ⟨rfl, rfl, rfl, rfl, rfl, rfl, trivial⟩ [2, 4] rfl rfl
                · refine N_then ?_
                  refine J_seq ?_
                  refine J_region ?_
                  refine JL_q (wants_none rfl) rfl (ex_assign rfl) ?_
                  refine JL_nil ?_
                  refine N_then ?_
                  refine J_seq ?_
                  refine J_region ?_
                  refine JL_q (wants_none rfl) rfl (ex_move rfl) ?_
                  refine JL_q (wants_none rfl) rfl (ex_move rfl) ?_
                  refine JL_bnd fun r589 hr590 => ?_
                  refine JL_ctx (fun w hh => hh.tokf 1 rfl rfl) ?_
                  refine JL_mark 0 [] mk_laws_markInt64S (wants_none rfl) rfl Tryd.call11 rfl rfl rfl rfl ((SH.start hA).start_rd rfl hp0) rfl hr590 ?_
                  refine JL_q (wants_none rfl) rfl (ex_assign rfl) ?_
                  refine JL_nil ?_
                  refine N_then ?_
                  refine J_seq ?_
                  refine J_region ?_
                  refine JL_q (wants_none rfl) rfl (ex_assign rfl) ?_
                  refine JL_nil ?_
                  refine N_then ?_
                  refine J_seq ?_
                  refine J_region ?_
                  refine JL_q (wants_none rfl) rfl (ex_move rfl) ?_
                  refine JL_q (wants_none rfl) rfl (ex_move rfl) ?_
                  refine JL_bnd fun r591 hr592 => ?_
                  refine JL_call (wants_none rfl) rfl Tryd.call12 rfl (Ca_of0 fun w hh => c_laws_heldInt64S _ w (fun _ hk => hk.elim) _ _ (hh.rd0 0 rfl) _ _ hr592) (fun _ => ?_)
                  refine JL_q (wants_none rfl) rfl (ex_assign rfl) ?_
                  refine JL_nil ?_
                  refine N_then ?_
                  refine J_seq ?_
                  refine J_seq ?_
                  refine J_region ?_
                  refine JL_q (wants_none rfl) rfl (ex_move rfl) ?_
                  refine JL_q (wants_none rfl) rfl (ex_lss rfl rfl) ?_
                  refine JL_nil ?_
                  refine N_then ?_
                  refine J_if rfl (fun h593 => ?_) (fun h593 => ?_)
                  · refine J_seq ?_
                    refine J_region ?_
                    refine JL_q (wants_none rfl) rfl (ex_assign rfl) ?_
                    refine JL_nil ?_
                    refine N_then ?_
                    refine J_ret ?_
                    refine N_then_ret ?_
                    exact N_ret1 rfl (rv_tmp rfl) (fun w hh => ⟨(), rfl, hh.sel [] rfl⟩)
                  · refine J_skip ?_
                    refine N_then ?_
                    refine J_seq ?_
                    refine J_seq ?_
                    refine J_region ?_
                    refine JL_q (wants_none rfl) rfl (ex_move rfl) ?_
                    refine JL_q (wants_none rfl) rfl (ex_move rfl) ?_
                    refine JL_q (wants_none rfl) rfl (ex_neq rfl rfl) ?_
                    refine JL_nil ?_
                    refine N_then ?_
                    refine J_if rfl (fun h594 => ?_) (fun h594 => ?_)
                    · refine J_seq ?_
                      refine J_region ?_
                      refine JL_q (wants_none rfl) rfl (ex_assign rfl) ?_
                      refine JL_nil ?_
                      refine N_then ?_
                      refine J_ret ?_
                      refine N_then_ret ?_
                      exact N_ret1 rfl (rv_tmp rfl) (fun w hh => ⟨(), rfl, hh.sel [] rfl⟩)
                    · refine J_skip ?_
                      refine N_then ?_
                      refine J_seq ?_
                      refine J_region ?_
                      refine JL_q (wants_none rfl) rfl (ex_move rfl) ?_
                      refine JL_bnd fun r595 hr596 => ?_
                      refine JL_call (wants_none rfl) rfl Tryd.call6 rfl (Ca_self (fun _ => rfl) fun w hh => c_laws_toDominoS _ w (fun _ hk => hk.elim) _ _ (hh.rd0 2 rfl) _ hr596) (fun x597 => ?_)
                      obtain ⟨x597_0, x597_1⟩ := x597
                      refine JL_q (wants_none rfl) rfl (ex_move rfl) ?_
                      refine JL_q (wants_none rfl) rfl (ex_move rfl) ?_
                      refine JL_bnd fun r598 hr599 => ?_
                      refine JL_call (wants_none rfl) rfl Tryd.call7 rfl (Ca_self (fun _ => rfl) fun w hh => c_impl_SolveDominoes _ w (fun _ hk => hk.elim) (Stn.of hT_ hh) _ _ (hh.od0 0 rfl) _ _ _ hr599) (fun x600 => ?_)
                      refine JL_q (wants_none rfl) rfl (ex_move rfl) ?_
                      refine JL_q (wants_none rfl) rfl (ex_extract rfl rfl) ?_
                      refine JL_q (wants_none rfl) rfl (ex_extract rfl rfl) ?_
                      refine JL_q (wants_none rfl) rfl (ex_assign rfl) ?_
                      refine JL_q (wants_none rfl) rfl (ex_assign rfl) ?_
                      refine JL_nil ?_
                      refine N_then ?_
                      refine J_seq ?_
                      refine J_seq ?_
                      refine J_region ?_
                      refine JL_q (wants_none rfl) rfl (ex_move rfl) ?_
                      refine JL_q (wants_none rfl) rfl (ex_move rfl) ?_
                      refine JL_bnd fun r601 hr602 => ?_
                      refine JL_call (wants_none rfl) rfl Tryd.call8 rfl (Ca_of0 fun w hh => c_laws_eqInt64S _ w (fun _ hk => hk.elim) _ _ (hh.ow0 0 rfl) _ _ rdNil _ hr602) (fun _ => ?_)
                      refine JL_q (wants_none rfl) rfl (ex_not rfl) ?_
                      refine JL_q (wants_none rfl) rfl (ex_move rfl) ?_
                      refine JL_cond (fun h603 => ?_) (fun h603 => ?_)
                      · refine JL_passed rfl rfl rfl h603 ?_
                        refine JL_passed rfl rfl rfl h603 ?_
                        refine JL_passed rfl rfl rfl h603 ?_
                        refine JL_q (wants_none rfl) rfl (ex_pick_true rfl h603 rfl) ?_
                        refine JL_nil ?_
                        refine N_then ?_
                        refine J_if_true rfl rfl ?_
                        refine J_seq ?_
                        refine J_region ?_
                        refine JL_q (wants_none rfl) rfl (ex_assign rfl) ?_
                        refine JL_nil ?_
                        refine N_then ?_
                        refine J_ret ?_
                        refine N_then_ret ?_
                        exact N_ret1 rfl (rv_tmp rfl) (fun w hh => ⟨(), rfl, hh.sel [] rfl⟩)
                      · refine JL_q (wants_some rfl rfl rfl h603) rfl (ex_move rfl) ?_
                        refine JL_q (wants_some rfl rfl rfl h603) rfl (ex_move rfl) ?_
                        refine JL_q (wants_some rfl rfl rfl h603) rfl (ex_neq rfl rfl) ?_
                        refine JL_q (wants_none rfl) rfl (ex_pick_false rfl h603 rfl) ?_
                        refine JL_nil ?_
                        refine N_then ?_
                        refine J_if rfl (fun h604 => ?_) (fun h604 => ?_)
                        · refine J_seq ?_
                          refine J_region ?_
                          refine JL_q (wants_none rfl) rfl (ex_assign rfl) ?_
                          refine JL_nil ?_
                          refine N_then ?_
                          refine J_ret ?_
                          refine N_then_ret ?_
                          exact N_ret1 rfl (rv_tmp rfl) (fun w hh => ⟨(), rfl, hh.sel [] rfl⟩)
                        · refine J_skip ?_
                          refine N_then ?_
                          refine J_seq ?_
                          refine J_region ?_
                          refine JL_q (wants_none rfl) rfl (ex_assign rfl) ?_
                          refine JL_nil ?_
                          refine N_then ?_
                          refine J_seq ?_
                          refine J_region ?_
                          refine JL_q (wants_none rfl) rfl (ex_move rfl) ?_
                          refine JL_q (wants_none rfl) rfl (ex_move rfl) ?_
                          refine JL_bnd fun r605 hr606 => ?_
                          refine JL_call (wants_none rfl) rfl Tryd.call12 rfl (Ca_of0 fun w hh => c_laws_heldInt64S _ w (fun _ hk => hk.elim) _ _ (hh.rd0 2 rfl) _ _ hr606) (fun _ => ?_)
                          refine JL_q (wants_none rfl) rfl (ex_assign rfl) ?_
                          refine JL_nil ?_
                          refine N_then ?_
                          refine J_seq ?_
                          refine J_seq ?_
                          refine J_region ?_
                          refine JL_q (wants_none rfl) rfl (ex_move rfl) ?_
                          refine JL_q (wants_none rfl) rfl (ex_lss rfl rfl) ?_
                          refine JL_nil ?_
                          refine N_then ?_
                          refine J_if rfl (fun h607 => ?_) (fun h607 => ?_)
                          · refine J_seq ?_
                            refine J_region ?_
                            refine JL_q (wants_none rfl) rfl (ex_assign rfl) ?_
                            refine JL_nil ?_
                            refine N_then ?_
                            refine J_ret ?_
                            refine N_then_ret ?_
                            exact N_ret1 rfl (rv_tmp rfl) (fun w hh => ⟨(), rfl, hh.sel [] rfl⟩)
                          · refine J_skip ?_
                            refine N_then ?_
                            refine J_seq ?_
                            refine J_seq ?_
                            refine J_region ?_
                            refine JL_q (wants_none rfl) rfl (ex_move rfl) ?_
                            refine JL_q (wants_none rfl) rfl (ex_move rfl) ?_
                            refine JL_q (wants_none rfl) rfl (ex_neq rfl rfl) ?_
                            refine JL_nil ?_
                            refine N_then ?_
                            refine J_if rfl (fun h608 => ?_) (fun h608 => ?_)
                            · refine J_seq ?_
                              refine J_region ?_
                              refine JL_q (wants_none rfl) rfl (ex_assign rfl) ?_
                              refine JL_nil ?_
                              refine N_then ?_
                              refine J_ret ?_
                              refine N_then_ret ?_
                              exact N_ret1 rfl (rv_tmp rfl) (fun w hh => ⟨(), rfl, hh.sel [] rfl⟩)
                            · refine J_skip ?_
                              refine N_then ?_
                              refine J_seq ?_
                              refine J_region ?_
                              refine JL_q (wants_none rfl) rfl (ex_assign rfl) ?_
                              refine JL_nil ?_
                              refine N_then ?_
                              refine J_ret ?_
                              exact N_ret1 rfl (rv_tmp rfl) (fun w hh => ⟨(), rfl, hh.sel [] rfl⟩)

end Go.Proofs.YtabpcmbohmodnaaDoor
