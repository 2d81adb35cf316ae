/-
  Each function of the program computes what its plain function says: printed by program. No condition.
-/
import Derived.Test.YtfinlgodcokmpaaDoorFn
import Derived.Test.YtfinlgodcokmpaaDoorInf
import Derived.Test.YtfinlgodcokmpaaDoorCon1
import Derived.Test.YtfinlgodcokmpaaDoorCon4
namespace Go.Proofs.YtfinlgodcokmpaaDoor
open Go Go.Tc Go.Fn
set_option linter.unusedVariables false

set_option maxHeartbeats 40000000 in
theorem c_laws_FnCycles (A : Nat → Prop) (w : World) (hA : ∀ k, A k → k < w.heap.size) (v0_ : Value) (p0 : (List (Ik .u8))) (hp0 : Rd A w v0_ p0) (v1_ : Value) (p1 : (List (Ik .u8))) (hp1 : Rd A w v1_ p1) (r : Bool) (hr : F_laws_FnCycles p0 p1 = some r) :
    Con Tryd.prog 3 [v0_, v1_] A w (fun x_ : Unit => .bool r) (fun x_ => []) := by
  refine Con_of (v := fun (r : Bool) (x_ : Unit) => .bool r) (fs := fun r x_ => []) Tryd.func3 rfl Tryd.ntmps3 rfl (((SH.start hA).start_rd rfl hp0).start_rd rfl hp1) rfl ?_ hr
  unfold F_laws_FnCycles
  refine J_seq ?_
  refine J_region ?_
  refine JL_q (wants_none rfl) rfl (ex_assign rfl) ?_
  refine JL_nil ?_
  refine N_then ?_
  refine J_seq ?_
  refine J_seq ?_
  refine J_region ?_
  refine JL_q (wants_none rfl) rfl (ex_move rfl) ?_
  refine JL_q (wants_none rfl) rfl (ex_move rfl) ?_
  refine JL_bnd fun r1 hr2 => ?_
  refine JL_call (wants_none rfl) rfl Tryd.call4 rfl (Ca_of0 fun w hh => c_laws_r8Long _ w (fun _ hk => hk.elim) _ _ (hh.rd0 1 rfl) _ _ (hh.rd0 0 rfl) _ hr2) (fun _ => ?_)
  refine JL_nil ?_
  refine N_then ?_
  refine J_if rfl (fun h3 => ?_) (fun h3 => ?_)
  · refine J_seq ?_
    refine J_region ?_
    refine JL_q (wants_none rfl) rfl (ex_assign rfl) ?_
    refine JL_nil ?_
    refine N_then ?_
    refine J_ret ?_
    refine N_then_ret ?_
    exact N_ret1 rfl (rv_tmp rfl) (fun w hh => ⟨(), rfl, hh.sel [] rfl⟩)
  · refine J_skip ?_
    refine N_then ?_
    refine J_seq ?_
    refine J_region ?_
    refine JL_q (wants_none rfl) rfl (ex_move rfl) ?_
    refine JL_bnd fun r4 hr5 => ?_
    refine JL_call (wants_none rfl) rfl Tryd.call5 rfl (Ca_self (fun _ => rfl) fun w hh => c_spec_R8Runner _ w (fun _ hk => hk.elim) _ _ (hh.rd0 1 rfl) _ hr5) (fun x6 => ?_)
    refine JL_st (wants_none rfl) rfl (st_alloc zi_26 rfl) (fun b7 => ?_)
    refine JL_sk (wants_none rfl) (sk_store_bx' 0 ti_26 rfl rfl (fun w hh => (cv_aggs ⟨cv_int, cv_int, (hh.cv_ow 1 rfl), trivial⟩)) rfl rfl rfl rfl) ?_
    refine JL_nil ?_
    refine N_then ?_
    refine J_seq ?_
    refine J_region ?_
    refine JL_q (wants_none rfl) rfl (ex_load_bx_agg 0 ti_26 rfl rfl rfl rfl) ?_
    refine JL_bnd fun r8 hr9 => ?_
    refine JL_call (wants_none rfl) rfl Tryd.call6 rfl (Ca_self (fun _ => rfl) fun w hh => c_impl_FindCycle _ w (fun _ hk => hk.elim) _ _ (GMachine.rdmk (Rd.mk_int _ _ _) (Rd.mk_int _ _ _) (hh.ow0 1 rfl)) _ _ hr9) (fun x10 => ?_)
    obtain ⟨x10_0, x10_1, x10_2⟩ := x10
    refine JL_q (wants_none rfl) rfl (ex_move rfl) ?_
    refine JL_q (wants_none rfl) rfl (ex_extract rfl rfl) ?_
    refine JL_q (wants_none rfl) rfl (ex_extract rfl rfl) ?_
    refine JL_st (wants_none rfl) rfl (st_alloc zi_31 rfl) (fun b11 => ?_)
    refine JL_sk (wants_none rfl) (sk_store_bx' 0 ti_31 rfl rfl (fun w hh => (cv_aggs ⟨cv_int, (hh.cv_ow 1 rfl), (hh.cv_od 2 rfl), trivial⟩)) rfl rfl rfl rfl) ?_
    refine JL_q (wants_none rfl) rfl (ex_assign rfl) ?_
    refine JL_nil ?_
    refine N_then ?_
    refine J_seq ?_
    refine J_cut' (S' := Bool × Int) (G' := Unit) (fun s12 _ => [(5, .pointer (some ⟨b7, 0, none⟩)), (6, .pointer (some ⟨b11, 0, none⟩)), (7, .int .i64 r8.2), (10, .bool s12.1), (11, .int .i64 s12.2)]) (fun s12 _ => [.ow 82 x6 r4.Rules, .bx b7 26 [.int .i64 r4.Symbols, .int .i64 r4.States, x6], .ow 2 x10_0 r8.1.Numbers, .od 28 x10_1 r8.1.Words x10_2, .bx b11 31 [.int .i64 r8.1.Kind, x10_0, x10_1]]) ?_ (fun s12 g13 => ?_)
    · refine J_draw [] (by kernel_rfl) ?_
      refine JP_take (i := 0) [0, 1, 2, 3, 4, 5, 6] [] rfl (by kernel_rfl) (by kernel_rfl) (by kernel_rfl) rfl rfl (wants_none rfl) rfl (ex_load_bx_agg 3 ti_26 rfl rfl rfl rfl) ?_
      refine JP_go [0, 1, 2, 3, 4, 5, 6] [] rfl rfl rfl (fun w15 h1_16 hp14 => ?_)
      refine JD_bnd fun r17 hr18 => ?_
      refine JD_two (i := 1) (j := 8) (by kernel_rfl) ?_ ?_
      · refine JO_call rfl (wants_none rfl) rfl Tryd.call8 rfl (Ca_self (fun _ => rfl) fun w hh => c_laws_r8Blank _ w (fun _ hk => hk.elim)  _ hr18) (fun x19 => ?_)
        obtain ⟨x19_0, x19_1⟩ := x19
        refine JD_bnd fun r20 hr21 => ?_
        refine JD_two (i := 2) (j := 8) (by kernel_rfl) ?_ ?_
        · refine JO_call rfl (wants_none rfl) rfl Tryd.call7 rfl (Ca_self (fun _ => rfl) fun w hh => c_impl_RunMachine _ w (fun _ hk => hk.elim) _ _ (GMachine.rdmk (Rd.mk_int _ _ _) (Rd.mk_int _ _ _) (hh.ow0 6 rfl)) _ _ (GConfig.rdmk (Rd.mk_int _ _ _) (hh.ow0 0 rfl) (hh.ow0 1 rfl)) _ _ hr21) (fun x22 => ?_)
          obtain ⟨x22_0, x22_1⟩ := x22
          refine JD_take (i := 3) hp14 rfl (by kernel_rfl) (by kernel_rfl) (by kernel_rfl) (wants_none rfl) rfl (ex_move rfl) ?_
          refine JD_take (i := 4) hp14 rfl (by kernel_rfl) (by kernel_rfl) (by kernel_rfl) (wants_none rfl) rfl (ex_extract rfl rfl) ?_
          refine JD_take (i := 5) hp14 rfl (by kernel_rfl) (by kernel_rfl) (by kernel_rfl) (wants_none rfl) rfl (ex_extract rfl rfl) ?_
          refine JD_take (i := 6) hp14 rfl (by kernel_rfl) (by kernel_rfl) (by kernel_rfl) (wants_none rfl) rfl (ex_extract rfl rfl) ?_
          refine JD_take (i := 7) hp14 rfl (by kernel_rfl) (by kernel_rfl) (by kernel_rfl) (wants_none rfl) rfl (ex_extract rfl rfl) ?_
          refine JD_one (i := 8) (by kernel_rfl) ?_
          refine JO_st rfl (wants_none rfl) rfl (st_alloc zi_35 rfl) (fun _ hk => nomatch hk) (fun b23 => ?_)
          refine JD_one (i := 9) (by kernel_rfl) ?_
          refine JO_sk2 0 [] [0, 1, 2, 3, 4, 5, 6] [5, 6, 7, 8, 9, 10, 11] rfl rfl rfl rfl rfl rfl (wants_none rfl) (sk_store_bx' 0 ti_35 rfl rfl (fun w hh => (cv_aggs ⟨cv_int, (hh.cv_ow 1 rfl), (hh.cv_ow 2 rfl), trivial⟩)) rfl rfl rfl rfl) (fun _ hk => hk) ?_
          refine JD_take (i := 10) hp14 rfl (by kernel_rfl) (by kernel_rfl) (by kernel_rfl) (wants_none rfl) rfl (ex_assign rfl) ?_
          refine JD_take (i := 11) hp14 rfl (by kernel_rfl) (by kernel_rfl) (by kernel_rfl) (wants_none rfl) rfl (ex_assign rfl) ?_
          refine JD_take (i := 12) hp14 rfl (by kernel_rfl) (by kernel_rfl) (by kernel_rfl) (wants_none rfl) rfl (ex_assign rfl) ?_
          refine JD_done (by kernel_rfl) ?_
          exact N_meet' () ⟨rfl, rfl, rfl, rfl, rfl, trivial⟩ [9, 8, 6, 7, 5] rfl rfl
        · refine JO_st rfl (wants_none rfl) rfl (st_alloc zi_35 rfl) (fun _ hk => nomatch hk) (fun b24 => ?_)
          refine JD_one (i := 2) (by kernel_rfl) ?_
          refine JO_call rfl (wants_none rfl) rfl Tryd.call7 rfl (Ca_self (fun _ => rfl) fun w hh => c_impl_RunMachine _ w (fun _ hk => hk.elim) _ _ (GMachine.rdmk (Rd.mk_int _ _ _) (Rd.mk_int _ _ _) (hh.ow0 7 rfl)) _ _ (GConfig.rdmk (Rd.mk_int _ _ _) (hh.ow0 1 rfl) (hh.ow0 2 rfl)) _ _ hr21) (fun x25 => ?_)
          obtain ⟨x25_0, x25_1⟩ := x25
          refine JD_take (i := 3) hp14 rfl (by kernel_rfl) (by kernel_rfl) (by kernel_rfl) (wants_none rfl) rfl (ex_move rfl) ?_
          refine JD_take (i := 4) hp14 rfl (by kernel_rfl) (by kernel_rfl) (by kernel_rfl) (wants_none rfl) rfl (ex_extract rfl rfl) ?_
          refine JD_take (i := 5) hp14 rfl (by kernel_rfl) (by kernel_rfl) (by kernel_rfl) (wants_none rfl) rfl (ex_extract rfl rfl) ?_
          refine JD_take (i := 6) hp14 rfl (by kernel_rfl) (by kernel_rfl) (by kernel_rfl) (wants_none rfl) rfl (ex_extract rfl rfl) ?_
          refine JD_take (i := 7) hp14 rfl (by kernel_rfl) (by kernel_rfl) (by kernel_rfl) (wants_none rfl) rfl (ex_extract rfl rfl) ?_
          refine JD_one (i := 9) (by kernel_rfl) ?_
          refine JO_sk2 2 [] [0, 1, 2, 3, 4, 5, 6] [5, 6, 7, 8, 9, 10, 11] rfl rfl rfl rfl rfl rfl (wants_none rfl) (sk_store_bx' 2 ti_35 rfl rfl (fun w hh => (cv_aggs ⟨cv_int, (hh.cv_ow 0 rfl), (hh.cv_ow 1 rfl), trivial⟩)) rfl rfl rfl rfl) (fun _ hk => hk) ?_
          refine JD_take (i := 10) hp14 rfl (by kernel_rfl) (by kernel_rfl) (by kernel_rfl) (wants_none rfl) rfl (ex_assign rfl) ?_
          refine JD_take (i := 11) hp14 rfl (by kernel_rfl) (by kernel_rfl) (by kernel_rfl) (wants_none rfl) rfl (ex_assign rfl) ?_
          refine JD_take (i := 12) hp14 rfl (by kernel_rfl) (by kernel_rfl) (by kernel_rfl) (wants_none rfl) rfl (ex_assign rfl) ?_
          refine JD_done (by kernel_rfl) ?_
          exact N_meet' () ⟨rfl, rfl, rfl, rfl, rfl, trivial⟩ [9, 8, 6, 7, 5] rfl rfl
      · refine JO_st rfl (wants_none rfl) rfl (st_alloc zi_35 rfl) (fun _ hk => nomatch hk) (fun b26 => ?_)
        refine JD_one (i := 1) (by kernel_rfl) ?_
        refine JO_call rfl (wants_none rfl) rfl Tryd.call8 rfl (Ca_self (fun _ => rfl) fun w hh => c_laws_r8Blank _ w (fun _ hk => hk.elim)  _ hr18) (fun x27 => ?_)
        obtain ⟨x27_0, x27_1⟩ := x27
        refine JD_bnd fun r28 hr29 => ?_
        refine JD_one (i := 2) (by kernel_rfl) ?_
        refine JO_call rfl (wants_none rfl) rfl Tryd.call7 rfl (Ca_self (fun _ => rfl) fun w hh => c_impl_RunMachine _ w (fun _ hk => hk.elim) _ _ (GMachine.rdmk (Rd.mk_int _ _ _) (Rd.mk_int _ _ _) (hh.ow0 7 rfl)) _ _ (GConfig.rdmk (Rd.mk_int _ _ _) (hh.ow0 0 rfl) (hh.ow0 1 rfl)) _ _ hr29) (fun x30 => ?_)
        obtain ⟨x30_0, x30_1⟩ := x30
        refine JD_take (i := 3) hp14 rfl (by kernel_rfl) (by kernel_rfl) (by kernel_rfl) (wants_none rfl) rfl (ex_move rfl) ?_
        refine JD_take (i := 4) hp14 rfl (by kernel_rfl) (by kernel_rfl) (by kernel_rfl) (wants_none rfl) rfl (ex_extract rfl rfl) ?_
        refine JD_take (i := 5) hp14 rfl (by kernel_rfl) (by kernel_rfl) (by kernel_rfl) (wants_none rfl) rfl (ex_extract rfl rfl) ?_
        refine JD_take (i := 6) hp14 rfl (by kernel_rfl) (by kernel_rfl) (by kernel_rfl) (wants_none rfl) rfl (ex_extract rfl rfl) ?_
        refine JD_take (i := 7) hp14 rfl (by kernel_rfl) (by kernel_rfl) (by kernel_rfl) (wants_none rfl) rfl (ex_extract rfl rfl) ?_
        refine JD_one (i := 9) (by kernel_rfl) ?_
        refine JO_sk2 4 [] [0, 1, 2, 3, 4, 5, 6] [5, 6, 7, 8, 9, 10, 11] rfl rfl rfl rfl rfl rfl (wants_none rfl) (sk_store_bx' 4 ti_35 rfl rfl (fun w hh => (cv_aggs ⟨cv_int, (hh.cv_ow 0 rfl), (hh.cv_ow 1 rfl), trivial⟩)) rfl rfl rfl rfl) (fun _ hk => hk) ?_
        refine JD_take (i := 10) hp14 rfl (by kernel_rfl) (by kernel_rfl) (by kernel_rfl) (wants_none rfl) rfl (ex_assign rfl) ?_
        refine JD_take (i := 11) hp14 rfl (by kernel_rfl) (by kernel_rfl) (by kernel_rfl) (wants_none rfl) rfl (ex_assign rfl) ?_
        refine JD_take (i := 12) hp14 rfl (by kernel_rfl) (by kernel_rfl) (by kernel_rfl) (wants_none rfl) rfl (ex_assign rfl) ?_
        refine JD_done (by kernel_rfl) ?_
        exact N_meet' () ⟨rfl, rfl, rfl, rfl, rfl, trivial⟩ [9, 8, 6, 7, 5] rfl rfl
    · refine N_then ?_
      refine J_seq ?_
      refine J_seq ?_
      refine J_region ?_
      refine JL_q (wants_none rfl) rfl (ex_move rfl) ?_
      refine JL_q (wants_none rfl) rfl (ex_neq rfl rfl) ?_
      refine JL_nil ?_
      refine N_then ?_
      refine J_if rfl (fun h31 => ?_) (fun h31 => ?_)
      · refine J_seq ?_
        refine J_cut' (S' := Bool) (G' := Unit) (fun s32 _ => [(4, .bool s32)]) (fun s32 _ => []) ?_ (fun s32 g33 => ?_)
        · refine J_region ?_
          refine JL_q (wants_none rfl) rfl (ex_move rfl) ?_
          refine JL_q (wants_none rfl) rfl (ex_eql rfl rfl) ?_
          refine JL_q (wants_none rfl) rfl (ex_move rfl) ?_
          refine JL_cond (fun h34 => ?_) (fun h34 => ?_)
          · refine JL_q (wants_some rfl rfl rfl h34) rfl (ex_move rfl) ?_
            refine JL_q (wants_some rfl rfl rfl h34) rfl (ex_eql rfl rfl) ?_
            refine JL_q (wants_none rfl) rfl (ex_pick_true rfl h34 rfl) ?_
            refine JL_q (wants_none rfl) rfl (ex_move rfl) ?_
            refine JL_cond (fun h35 => ?_) (fun h35 => ?_)
            · refine JL_passed rfl rfl rfl h35 ?_
              refine JL_passed rfl rfl rfl h35 ?_
              refine JL_passed rfl rfl rfl h35 ?_
              refine JL_passed_undef rfl rfl rfl ?_
              refine JL_passed_undef rfl rfl rfl ?_
              refine JL_passed_undef rfl rfl rfl ?_
              refine JL_passed_undef rfl rfl rfl ?_
              refine JL_passed rfl rfl rfl h35 ?_
              refine JL_passed rfl rfl rfl h35 ?_
              refine JL_passed_undef rfl rfl rfl ?_
              refine JL_passed_undef rfl rfl rfl ?_
              refine JL_passed_undef rfl rfl rfl ?_
              refine JL_passed_undef rfl rfl rfl ?_
              refine JL_passed_undef rfl rfl rfl ?_
              refine JL_passed rfl rfl rfl h35 ?_
              refine JL_q (wants_none rfl) rfl (ex_pick_true rfl h35 rfl) ?_
              refine JL_q (wants_none rfl) rfl (ex_assign rfl) ?_
              refine JL_nil ?_
              exact N_meet' () ⟨rfl, trivial⟩ [] rfl rfl
            · refine JL_q (wants_some rfl rfl rfl h35) rfl (ex_move rfl) ?_
              refine JL_q (wants_some rfl rfl rfl h35) rfl (ex_eql rfl rfl) ?_
              refine JL_q (wants_some rfl rfl rfl h35) rfl (ex_move rfl) ?_
              refine JL_cond (fun h36 => ?_) (fun h36 => ?_)
              · refine JL_q (wants_some rfl rfl rfl h36) rfl (ex_move rfl) ?_
                refine JL_q (wants_some rfl rfl rfl h36) rfl (ex_eql rfl rfl) ?_
                refine JL_q (wants_some rfl rfl rfl h36) rfl (ex_move rfl) ?_
                refine JL_q (wants_some rfl rfl rfl h36) rfl (ex_eql_bool Tryd.underlying4 rfl rfl) ?_
                refine JL_q (wants_some rfl rfl rfl h35) rfl (ex_pick_true rfl h36 rfl) ?_
                refine JL_q (wants_some rfl rfl rfl h35) rfl (ex_move rfl) ?_
                refine JL_cond (fun h37 => ?_) (fun h37 => ?_)
                · refine JL_q (wants_some rfl rfl rfl h37) rfl (ex_move rfl) ?_
                  refine JL_q (wants_some rfl rfl rfl h37) rfl (ex_move rfl) ?_
                  refine JL_cond (fun h38 => ?_) (fun h38 => ?_)
                  · refine JL_passed rfl rfl rfl h38 ?_
                    refine JL_passed rfl rfl rfl h38 ?_
                    refine JL_q (wants_some rfl rfl rfl h37) rfl (ex_pick_true rfl h38 rfl) ?_
                    refine JL_q (wants_some rfl rfl rfl h35) rfl (ex_pick_true rfl h37 rfl) ?_
                    refine JL_q (wants_none rfl) rfl (ex_pick_false rfl h35 rfl) ?_
                    refine JL_q (wants_none rfl) rfl (ex_assign rfl) ?_
                    refine JL_nil ?_
                    exact N_meet' () ⟨rfl, trivial⟩ [] rfl rfl
                  · refine JL_q (wants_some rfl rfl rfl h38) rfl (ex_move rfl) ?_
                    refine JL_q (wants_some rfl rfl rfl h38) rfl (ex_eql rfl rfl) ?_
                    refine JL_q (wants_some rfl rfl rfl h37) rfl (ex_pick_false rfl h38 rfl) ?_
                    refine JL_q (wants_some rfl rfl rfl h35) rfl (ex_pick_true rfl h37 rfl) ?_
                    refine JL_q (wants_none rfl) rfl (ex_pick_false rfl h35 rfl) ?_
                    refine JL_q (wants_none rfl) rfl (ex_assign rfl) ?_
                    refine JL_nil ?_
                    exact N_meet' () ⟨rfl, trivial⟩ [] rfl rfl
                · refine JL_passed rfl rfl rfl h37 ?_
                  refine JL_passed rfl rfl rfl h37 ?_
                  refine JL_passed_undef rfl rfl rfl ?_
                  refine JL_passed_undef rfl rfl rfl ?_
                  refine JL_passed rfl rfl rfl h37 ?_
                  refine JL_q (wants_some rfl rfl rfl h35) rfl (ex_pick_false rfl h37 rfl) ?_
                  refine JL_q (wants_none rfl) rfl (ex_pick_false rfl h35 rfl) ?_
                  refine JL_q (wants_none rfl) rfl (ex_assign rfl) ?_
                  refine JL_nil ?_
                  exact N_meet' () ⟨rfl, trivial⟩ [] rfl rfl
              · refine JL_passed rfl rfl rfl h36 ?_
                refine JL_passed rfl rfl rfl h36 ?_
                refine JL_passed rfl rfl rfl h36 ?_
                refine JL_passed rfl rfl rfl h36 ?_
                refine JL_q (wants_some rfl rfl rfl h35) rfl (ex_pick_false rfl h36 rfl) ?_
                refine JL_q (wants_some rfl rfl rfl h35) rfl (ex_move rfl) ?_
                refine JL_passed rfl rfl rfl rfl ?_
                refine JL_passed rfl rfl rfl rfl ?_
                refine JL_passed_undef rfl rfl rfl ?_
                refine JL_passed_undef rfl rfl rfl ?_
                refine JL_passed rfl rfl rfl rfl ?_
                refine JL_q (wants_some rfl rfl rfl h35) rfl (ex_pick_false rfl rfl rfl) ?_
                refine JL_q (wants_none rfl) rfl (ex_pick_false rfl h35 rfl) ?_
                refine JL_q (wants_none rfl) rfl (ex_assign rfl) ?_
                refine JL_nil ?_
                exact N_meet' () ⟨rfl, trivial⟩ [] rfl rfl
          · refine JL_passed rfl rfl rfl h34 ?_
            refine JL_passed rfl rfl rfl h34 ?_
            refine JL_q (wants_none rfl) rfl (ex_pick_false rfl h34 rfl) ?_
            refine JL_q (wants_none rfl) rfl (ex_move rfl) ?_
            refine JL_q (wants_some rfl rfl rfl rfl) rfl (ex_move rfl) ?_
            refine JL_q (wants_some rfl rfl rfl rfl) rfl (ex_eql rfl rfl) ?_
            refine JL_q (wants_some rfl rfl rfl rfl) rfl (ex_move rfl) ?_
            refine JL_cond (fun h39 => ?_) (fun h39 => ?_)
            · refine JL_q (wants_some rfl rfl rfl h39) rfl (ex_move rfl) ?_
              refine JL_q (wants_some rfl rfl rfl h39) rfl (ex_eql rfl rfl) ?_
              refine JL_q (wants_some rfl rfl rfl h39) rfl (ex_move rfl) ?_
              refine JL_q (wants_some rfl rfl rfl h39) rfl (ex_eql_bool Tryd.underlying4 rfl rfl) ?_
              refine JL_q (wants_some rfl rfl rfl rfl) rfl (ex_pick_true rfl h39 rfl) ?_
              refine JL_q (wants_some rfl rfl rfl rfl) rfl (ex_move rfl) ?_
              refine JL_cond (fun h40 => ?_) (fun h40 => ?_)
              · refine JL_q (wants_some rfl rfl rfl h40) rfl (ex_move rfl) ?_
                refine JL_q (wants_some rfl rfl rfl h40) rfl (ex_move rfl) ?_
                refine JL_cond (fun h41 => ?_) (fun h41 => ?_)
                · refine JL_passed rfl rfl rfl h41 ?_
                  refine JL_passed rfl rfl rfl h41 ?_
                  refine JL_q (wants_some rfl rfl rfl h40) rfl (ex_pick_true rfl h41 rfl) ?_
                  refine JL_q (wants_some rfl rfl rfl rfl) rfl (ex_pick_true rfl h40 rfl) ?_
                  refine JL_q (wants_none rfl) rfl (ex_pick_false rfl rfl rfl) ?_
                  refine JL_q (wants_none rfl) rfl (ex_assign rfl) ?_
                  refine JL_nil ?_
                  exact N_meet' () ⟨rfl, trivial⟩ [] rfl rfl
                · refine JL_q (wants_some rfl rfl rfl h41) rfl (ex_move rfl) ?_
                  refine JL_q (wants_some rfl rfl rfl h41) rfl (ex_eql rfl rfl) ?_
                  refine JL_q (wants_some rfl rfl rfl h40) rfl (ex_pick_false rfl h41 rfl) ?_
                  refine JL_q (wants_some rfl rfl rfl rfl) rfl (ex_pick_true rfl h40 rfl) ?_
                  refine JL_q (wants_none rfl) rfl (ex_pick_false rfl rfl rfl) ?_
                  refine JL_q (wants_none rfl) rfl (ex_assign rfl) ?_
                  refine JL_nil ?_
                  exact N_meet' () ⟨rfl, trivial⟩ [] rfl rfl
              · refine JL_passed rfl rfl rfl h40 ?_
                refine JL_passed rfl rfl rfl h40 ?_
                refine JL_passed_undef rfl rfl rfl ?_
                refine JL_passed_undef rfl rfl rfl ?_
                refine JL_passed rfl rfl rfl h40 ?_
                refine JL_q (wants_some rfl rfl rfl rfl) rfl (ex_pick_false rfl h40 rfl) ?_
                refine JL_q (wants_none rfl) rfl (ex_pick_false rfl rfl rfl) ?_
                refine JL_q (wants_none rfl) rfl (ex_assign rfl) ?_
                refine JL_nil ?_
                exact N_meet' () ⟨rfl, trivial⟩ [] rfl rfl
            · refine JL_passed rfl rfl rfl h39 ?_
              refine JL_passed rfl rfl rfl h39 ?_
              refine JL_passed rfl rfl rfl h39 ?_
              refine JL_passed rfl rfl rfl h39 ?_
              refine JL_q (wants_some rfl rfl rfl rfl) rfl (ex_pick_false rfl h39 rfl) ?_
              refine JL_q (wants_some rfl rfl rfl rfl) rfl (ex_move rfl) ?_
              refine JL_passed rfl rfl rfl rfl ?_
              refine JL_passed rfl rfl rfl rfl ?_
              refine JL_passed_undef rfl rfl rfl ?_
              refine JL_passed_undef rfl rfl rfl ?_
              refine JL_passed rfl rfl rfl rfl ?_
              refine JL_q (wants_some rfl rfl rfl rfl) rfl (ex_pick_false rfl rfl rfl) ?_
              refine JL_q (wants_none rfl) rfl (ex_pick_false rfl rfl rfl) ?_
              refine JL_q (wants_none rfl) rfl (ex_assign rfl) ?_
              refine JL_nil ?_
              exact N_meet' () ⟨rfl, trivial⟩ [] rfl rfl
        · refine N_then ?_
          refine J_ret ?_
          refine N_then_ret ?_
          exact N_ret1 rfl (rv_tmp rfl) (fun w hh => ⟨(), rfl, hh.sel [] rfl⟩)
      · refine J_skip ?_
        refine N_then ?_
        refine J_seq ?_
        refine J_cut' (S' := Unit) (G' := Unit) (fun _ _ => [(5, .pointer (some ⟨b7, 0, none⟩)), (6, .pointer (some ⟨b11, 0, none⟩))]) (fun _ _ => [.ow 82 x6 r4.Rules, .bx b7 26 [.int .i64 r4.Symbols, .int .i64 r4.States, x6], .ow 2 x10_0 r8.1.Numbers, .od 28 x10_1 r8.1.Words x10_2, .bx b11 31 [.int .i64 r8.1.Kind, x10_0, x10_1]]) ?_ (fun s42 g43 => ?_)
        · refine J_seq ?_
          refine J_draw [2] (by kernel_rfl) ?_
          refine JP_take (i := 0) [0, 1, 3, 4] [2] rfl (by kernel_rfl) (by kernel_rfl) (by kernel_rfl) rfl rfl (wants_none rfl) rfl (ex_move rfl) ?_
          refine JP_take (i := 1) [0, 1, 3, 4] [2] rfl (by kernel_rfl) (by kernel_rfl) (by kernel_rfl) rfl rfl (wants_none rfl) rfl (ex_neq rfl rfl) ?_
          refine JP_take (i := 2) [0, 1, 3, 4] [2] rfl (by kernel_rfl) (by kernel_rfl) (by kernel_rfl) rfl rfl (wants_none rfl) rfl (ex_move rfl) ?_
          refine JP_cond (fun h44 => ?_) (fun h44 => ?_)
          · refine JP_pass (i := 3) rfl (by kernel_rfl) (by kernel_rfl) (by kernel_rfl) rfl rfl h44 rfl ?_
            refine JP_take (i := 4) [0, 1, 3, 4] [2] rfl (by kernel_rfl) (by kernel_rfl) (by kernel_rfl) rfl rfl (wants_none rfl) rfl (ex_pick_true rfl h44 rfl) ?_
            refine JP_take (i := 5) [0, 1, 3, 4] [2] rfl (by kernel_rfl) (by kernel_rfl) (by kernel_rfl) rfl rfl (wants_none rfl) rfl (ex_move rfl) ?_
            refine JP_pass (i := 6) rfl (by kernel_rfl) (by kernel_rfl) (by kernel_rfl) rfl rfl rfl rfl ?_
            refine JP_pass (i := 7) rfl (by kernel_rfl) (by kernel_rfl) (by kernel_rfl) rfl rfl rfl rfl ?_
            refine JP_pass (i := 8) rfl (by kernel_rfl) (by kernel_rfl) (by kernel_rfl) rfl rfl rfl rfl ?_
            refine JP_pass (i := 9) rfl (by kernel_rfl) (by kernel_rfl) (by kernel_rfl) rfl rfl rfl rfl ?_
            refine JP_take (i := 10) [0, 1, 3, 4] [2] rfl (by kernel_rfl) (by kernel_rfl) (by kernel_rfl) rfl rfl (wants_none rfl) rfl (ex_pick_true rfl rfl rfl) ?_
            refine JP_take (i := 11) [0, 1, 3, 4] [2] rfl (by kernel_rfl) (by kernel_rfl) (by kernel_rfl) rfl rfl (wants_none rfl) rfl (ex_move rfl) ?_
            refine JP_pass (i := 12) rfl (by kernel_rfl) (by kernel_rfl) (by kernel_rfl) rfl rfl rfl rfl ?_
            refine JP_pass (i := 13) rfl (by kernel_rfl) (by kernel_rfl) (by kernel_rfl) rfl rfl rfl rfl ?_
            refine JP_pass (i := 14) rfl (by kernel_rfl) (by kernel_rfl) (by kernel_rfl) rfl rfl rfl rfl ?_
            refine JP_pass (i := 15) rfl (by kernel_rfl) (by kernel_rfl) (by kernel_rfl) rfl rfl rfl rfl ?_
            refine JP_take (i := 16) [0, 1, 3, 4] [2] rfl (by kernel_rfl) (by kernel_rfl) (by kernel_rfl) rfl rfl (wants_none rfl) rfl (ex_pick_true rfl rfl rfl) ?_
            refine JP_take (i := 17) [0, 1, 3, 4] [2] rfl (by kernel_rfl) (by kernel_rfl) (by kernel_rfl) rfl rfl (wants_none rfl) rfl (ex_move rfl) ?_
            refine JP_pass (i := 18) rfl (by kernel_rfl) (by kernel_rfl) (by kernel_rfl) rfl rfl rfl rfl ?_
            refine JP_pass (i := 19) rfl (by kernel_rfl) (by kernel_rfl) (by kernel_rfl) rfl rfl rfl rfl ?_
            refine JP_pass (i := 20) rfl (by kernel_rfl) (by kernel_rfl) (by kernel_rfl) rfl rfl rfl rfl ?_
            refine JP_pass (i := 21) rfl (by kernel_rfl) (by kernel_rfl) (by kernel_rfl) rfl rfl rfl rfl ?_
            refine JP_pass (i := 22) rfl (by kernel_rfl) (by kernel_rfl) (by kernel_rfl) rfl rfl rfl rfl ?_
            refine JP_take (i := 23) [0, 1, 3, 4] [2] rfl (by kernel_rfl) (by kernel_rfl) (by kernel_rfl) rfl rfl (wants_none rfl) rfl (ex_pick_true rfl rfl rfl) ?_
            refine JP_take (i := 24) [0, 1, 3, 4] [2] rfl (by kernel_rfl) (by kernel_rfl) (by kernel_rfl) rfl rfl (wants_none rfl) rfl (ex_move rfl) ?_
            refine JP_pass (i := 25) rfl (by kernel_rfl) (by kernel_rfl) (by kernel_rfl) rfl rfl rfl rfl ?_
            refine JP_pass (i := 26) rfl (by kernel_rfl) (by kernel_rfl) (by kernel_rfl) rfl rfl rfl rfl ?_
            refine JP_pass (i := 27) rfl (by kernel_rfl) (by kernel_rfl) (by kernel_rfl) rfl rfl rfl rfl ?_
            refine JP_pass (i := 28) rfl (by kernel_rfl) (by kernel_rfl) (by kernel_rfl) rfl rfl rfl rfl ?_
            refine JP_pass (i := 29) rfl (by kernel_rfl) (by kernel_rfl) (by kernel_rfl) rfl rfl rfl rfl ?_
            refine JP_take (i := 30) [0, 1, 3, 4] [2] rfl (by kernel_rfl) (by kernel_rfl) (by kernel_rfl) rfl rfl (wants_none rfl) rfl (ex_pick_true rfl rfl rfl) ?_
            refine JP_take (i := 31) [0, 1, 3, 4] [2] rfl (by kernel_rfl) (by kernel_rfl) (by kernel_rfl) rfl rfl (wants_none rfl) rfl (ex_move rfl) ?_
            refine JP_pass (i := 32) rfl (by kernel_rfl) (by kernel_rfl) (by kernel_rfl) rfl rfl rfl rfl ?_
            refine JP_pass (i := 33) rfl (by kernel_rfl) (by kernel_rfl) (by kernel_rfl) rfl rfl rfl rfl ?_
            refine JP_pass (i := 34) rfl (by kernel_rfl) (by kernel_rfl) (by kernel_rfl) rfl rfl rfl rfl ?_
            refine JP_pass (i := 35) rfl (by kernel_rfl) (by kernel_rfl) (by kernel_rfl) rfl rfl rfl rfl ?_
            refine JP_pass (i := 36) rfl (by kernel_rfl) (by kernel_rfl) (by kernel_rfl) rfl rfl rfl rfl ?_
            refine JP_pass (i := 37) rfl (by kernel_rfl) (by kernel_rfl) (by kernel_rfl) rfl rfl rfl rfl ?_
            refine JP_pass (i := 38) rfl (by kernel_rfl) (by kernel_rfl) (by kernel_rfl) rfl rfl rfl rfl ?_
            refine JP_pass (i := 39) rfl (by kernel_rfl) (by kernel_rfl) (by kernel_rfl) rfl rfl rfl rfl ?_
            refine JP_pass (i := 40) rfl (by kernel_rfl) (by kernel_rfl) (by kernel_rfl) rfl rfl rfl rfl ?_
            refine JP_pass (i := 41) rfl (by kernel_rfl) (by kernel_rfl) (by kernel_rfl) rfl rfl rfl rfl ?_
            refine JP_take (i := 42) [0, 1, 3, 4] [2] rfl (by kernel_rfl) (by kernel_rfl) (by kernel_rfl) rfl rfl (wants_none rfl) rfl (ex_pick_true rfl rfl rfl) ?_
            refine JP_go [] [2] rfl rfl rfl (fun _ _ _ => ?_)
            refine JD_done (by kernel_rfl) ?_
            refine N_then ?_
            refine J_if_true rfl rfl ?_
            refine J_seq ?_
            refine J_region ?_
            refine JL_q (wants_none rfl) rfl (ex_assign rfl) ?_
            refine JL_nil ?_
            refine N_then ?_
            refine J_ret ?_
            refine N_mid_ret ?_
            refine N_then_ret ?_
            exact N_ret1 rfl (rv_tmp rfl) (fun w hh => ⟨(), rfl, hh.sel [] rfl⟩)
          · refine JP_take (i := 3) [0, 1, 3, 4] [2] rfl (by kernel_rfl) (by kernel_rfl) (by kernel_rfl) rfl rfl (wants_some rfl rfl rfl h44) rfl (ex_move rfl) ?_
            refine JP_take (i := 4) [0, 1, 3, 4] [2] rfl (by kernel_rfl) (by kernel_rfl) (by kernel_rfl) rfl rfl (wants_none rfl) rfl (ex_pick_false rfl h44 rfl) ?_
            refine JP_take (i := 5) [0, 1, 3, 4] [2] rfl (by kernel_rfl) (by kernel_rfl) (by kernel_rfl) rfl rfl (wants_none rfl) rfl (ex_move rfl) ?_
            refine JP_cond (fun h45 => ?_) (fun h45 => ?_)
            · refine JP_pass (i := 6) rfl (by kernel_rfl) (by kernel_rfl) (by kernel_rfl) rfl rfl h45 rfl ?_
              refine JP_pass (i := 7) rfl (by kernel_rfl) (by kernel_rfl) (by kernel_rfl) rfl rfl h45 rfl ?_
              refine JP_pass (i := 8) rfl (by kernel_rfl) (by kernel_rfl) (by kernel_rfl) rfl rfl h45 rfl ?_
              refine JP_pass (i := 9) rfl (by kernel_rfl) (by kernel_rfl) (by kernel_rfl) rfl rfl h45 rfl ?_
              refine JP_take (i := 10) [0, 1, 3, 4] [2] rfl (by kernel_rfl) (by kernel_rfl) (by kernel_rfl) rfl rfl (wants_none rfl) rfl (ex_pick_true rfl h45 rfl) ?_
              refine JP_take (i := 11) [0, 1, 3, 4] [2] rfl (by kernel_rfl) (by kernel_rfl) (by kernel_rfl) rfl rfl (wants_none rfl) rfl (ex_move rfl) ?_
              refine JP_pass (i := 12) rfl (by kernel_rfl) (by kernel_rfl) (by kernel_rfl) rfl rfl rfl rfl ?_
              refine JP_pass (i := 13) rfl (by kernel_rfl) (by kernel_rfl) (by kernel_rfl) rfl rfl rfl rfl ?_
              refine JP_pass (i := 14) rfl (by kernel_rfl) (by kernel_rfl) (by kernel_rfl) rfl rfl rfl rfl ?_
              refine JP_pass (i := 15) rfl (by kernel_rfl) (by kernel_rfl) (by kernel_rfl) rfl rfl rfl rfl ?_
              refine JP_take (i := 16) [0, 1, 3, 4] [2] rfl (by kernel_rfl) (by kernel_rfl) (by kernel_rfl) rfl rfl (wants_none rfl) rfl (ex_pick_true rfl rfl rfl) ?_
              refine JP_take (i := 17) [0, 1, 3, 4] [2] rfl (by kernel_rfl) (by kernel_rfl) (by kernel_rfl) rfl rfl (wants_none rfl) rfl (ex_move rfl) ?_
              refine JP_pass (i := 18) rfl (by kernel_rfl) (by kernel_rfl) (by kernel_rfl) rfl rfl rfl rfl ?_
              refine JP_pass (i := 19) rfl (by kernel_rfl) (by kernel_rfl) (by kernel_rfl) rfl rfl rfl rfl ?_
              refine JP_pass (i := 20) rfl (by kernel_rfl) (by kernel_rfl) (by kernel_rfl) rfl rfl rfl rfl ?_
              refine JP_pass (i := 21) rfl (by kernel_rfl) (by kernel_rfl) (by kernel_rfl) rfl rfl rfl rfl ?_
              refine JP_pass (i := 22) rfl (by kernel_rfl) (by kernel_rfl) (by kernel_rfl) rfl rfl rfl rfl ?_
              refine JP_take (i := 23) [0, 1, 3, 4] [2] rfl (by kernel_rfl) (by kernel_rfl) (by kernel_rfl) rfl rfl (wants_none rfl) rfl (ex_pick_true rfl rfl rfl) ?_
              refine JP_take (i := 24) [0, 1, 3, 4] [2] rfl (by kernel_rfl) (by kernel_rfl) (by kernel_rfl) rfl rfl (wants_none rfl) rfl (ex_move rfl) ?_
              refine JP_pass (i := 25) rfl (by kernel_rfl) (by kernel_rfl) (by kernel_rfl) rfl rfl rfl rfl ?_
              refine JP_pass (i := 26) rfl (by kernel_rfl) (by kernel_rfl) (by kernel_rfl) rfl rfl rfl rfl ?_
              refine JP_pass (i := 27) rfl (by kernel_rfl) (by kernel_rfl) (by kernel_rfl) rfl rfl rfl rfl ?_
              refine JP_pass (i := 28) rfl (by kernel_rfl) (by kernel_rfl) (by kernel_rfl) rfl rfl rfl rfl ?_
              refine JP_pass (i := 29) rfl (by kernel_rfl) (by kernel_rfl) (by kernel_rfl) rfl rfl rfl rfl ?_
              refine JP_take (i := 30) [0, 1, 3, 4] [2] rfl (by kernel_rfl) (by kernel_rfl) (by kernel_rfl) rfl rfl (wants_none rfl) rfl (ex_pick_true rfl rfl rfl) ?_
              refine JP_take (i := 31) [0, 1, 3, 4] [2] rfl (by kernel_rfl) (by kernel_rfl) (by kernel_rfl) rfl rfl (wants_none rfl) rfl (ex_move rfl) ?_
              refine JP_pass (i := 32) rfl (by kernel_rfl) (by kernel_rfl) (by kernel_rfl) rfl rfl rfl rfl ?_
              refine JP_pass (i := 33) rfl (by kernel_rfl) (by kernel_rfl) (by kernel_rfl) rfl rfl rfl rfl ?_
              refine JP_pass (i := 34) rfl (by kernel_rfl) (by kernel_rfl) (by kernel_rfl) rfl rfl rfl rfl ?_
              refine JP_pass (i := 35) rfl (by kernel_rfl) (by kernel_rfl) (by kernel_rfl) rfl rfl rfl rfl ?_
              refine JP_pass (i := 36) rfl (by kernel_rfl) (by kernel_rfl) (by kernel_rfl) rfl rfl rfl rfl ?_
              refine JP_pass (i := 37) rfl (by kernel_rfl) (by kernel_rfl) (by kernel_rfl) rfl rfl rfl rfl ?_
              refine JP_pass (i := 38) rfl (by kernel_rfl) (by kernel_rfl) (by kernel_rfl) rfl rfl rfl rfl ?_
              refine JP_pass (i := 39) rfl (by kernel_rfl) (by kernel_rfl) (by kernel_rfl) rfl rfl rfl rfl ?_
              refine JP_pass (i := 40) rfl (by kernel_rfl) (by kernel_rfl) (by kernel_rfl) rfl rfl rfl rfl ?_
              refine JP_pass (i := 41) rfl (by kernel_rfl) (by kernel_rfl) (by kernel_rfl) rfl rfl rfl rfl ?_
              refine JP_take (i := 42) [0, 1, 3, 4] [2] rfl (by kernel_rfl) (by kernel_rfl) (by kernel_rfl) rfl rfl (wants_none rfl) rfl (ex_pick_true rfl rfl rfl) ?_
              refine JP_go [] [2] rfl rfl rfl (fun _ _ _ => ?_)
              refine JD_done (by kernel_rfl) ?_
              refine N_then ?_
              refine J_if_true rfl rfl ?_
              refine J_seq ?_
              refine J_region ?_
              refine JL_q (wants_none rfl) rfl (ex_assign rfl) ?_
              refine JL_nil ?_
              refine N_then ?_
              refine J_ret ?_
              refine N_mid_ret ?_
              refine N_then_ret ?_
              exact N_ret1 rfl (rv_tmp rfl) (fun w hh => ⟨(), rfl, hh.sel [] rfl⟩)
            · refine JP_take (i := 6) [0, 1, 3, 4] [2] rfl (by kernel_rfl) (by kernel_rfl) (by kernel_rfl) rfl rfl (wants_some rfl rfl rfl h45) rfl (ex_load_bx_agg 1 ti_26 rfl rfl rfl rfl) ?_
              refine JP_take (i := 7) [0, 1, 3, 4] [2] rfl (by kernel_rfl) (by kernel_rfl) (by kernel_rfl) rfl rfl (wants_some rfl rfl rfl h45) rfl (ex_load_bx_agg 3 ti_31 rfl rfl rfl rfl) ?_
              refine JP_go [0, 1, 3, 4] [2] rfl rfl rfl (fun w47 h1_48 hp46 => ?_)
              refine JD_bnd fun r49 hr50 => ?_
              refine JD_one (i := 8) (by kernel_rfl) ?_
              refine JO_call rfl (wants_some rfl rfl rfl h45) rfl Tryd.call9 rfl (Ca_of0 fun w hh => c_impl_CheckCycle _ w (fun _ hk => hk.elim) _ _ (GMachine.rdmk (Rd.mk_int _ _ _) (Rd.mk_int _ _ _) (hh.ow0 0 rfl)) _ _ (GProof.rdmk (Rd.mk_int _ _ _) (hh.ow0 2 rfl) (hh.od0 3 rfl)) _ hr50) (fun _ => ?_)
              refine JD_take (i := 9) hp46 rfl (by kernel_rfl) (by kernel_rfl) (by kernel_rfl) (wants_some rfl rfl rfl h45) rfl (ex_not rfl) ?_
              refine JD_take (i := 10) hp46 rfl (by kernel_rfl) (by kernel_rfl) (by kernel_rfl) (wants_none rfl) rfl (ex_pick_false rfl h45 rfl) ?_
              refine JD_take (i := 11) hp46 rfl (by kernel_rfl) (by kernel_rfl) (by kernel_rfl) (wants_none rfl) rfl (ex_move rfl) ?_
              refine JD_cond (fun h51 => ?_) (fun h51 => ?_)
              · refine JD_pass (i := 12) rfl (by kernel_rfl) (by kernel_rfl) (by kernel_rfl) rfl rfl h51 rfl ?_
                refine JD_pass (i := 13) rfl (by kernel_rfl) (by kernel_rfl) (by kernel_rfl) rfl rfl h51 rfl ?_
                refine JD_pass (i := 14) rfl (by kernel_rfl) (by kernel_rfl) (by kernel_rfl) rfl rfl h51 rfl ?_
                refine JD_pass (i := 15) rfl (by kernel_rfl) (by kernel_rfl) (by kernel_rfl) rfl rfl h51 rfl ?_
                refine JD_take (i := 16) hp46 rfl (by kernel_rfl) (by kernel_rfl) (by kernel_rfl) (wants_none rfl) rfl (ex_pick_true rfl h51 rfl) ?_
                refine JD_take (i := 17) hp46 rfl (by kernel_rfl) (by kernel_rfl) (by kernel_rfl) (wants_none rfl) rfl (ex_move rfl) ?_
                refine JD_pass (i := 18) rfl (by kernel_rfl) (by kernel_rfl) (by kernel_rfl) rfl rfl rfl rfl ?_
                refine JD_pass (i := 19) rfl (by kernel_rfl) (by kernel_rfl) (by kernel_rfl) rfl rfl rfl rfl ?_
                refine JD_pass (i := 20) rfl (by kernel_rfl) (by kernel_rfl) (by kernel_rfl) rfl rfl rfl rfl ?_
                refine JD_pass (i := 21) rfl (by kernel_rfl) (by kernel_rfl) (by kernel_rfl) rfl rfl rfl rfl ?_
                refine JD_pass (i := 22) rfl (by kernel_rfl) (by kernel_rfl) (by kernel_rfl) rfl rfl rfl rfl ?_
                refine JD_take (i := 23) hp46 rfl (by kernel_rfl) (by kernel_rfl) (by kernel_rfl) (wants_none rfl) rfl (ex_pick_true rfl rfl rfl) ?_
                refine JD_take (i := 24) hp46 rfl (by kernel_rfl) (by kernel_rfl) (by kernel_rfl) (wants_none rfl) rfl (ex_move rfl) ?_
                refine JD_pass (i := 25) rfl (by kernel_rfl) (by kernel_rfl) (by kernel_rfl) rfl rfl rfl rfl ?_
                refine JD_pass (i := 26) rfl (by kernel_rfl) (by kernel_rfl) (by kernel_rfl) rfl rfl rfl rfl ?_
                refine JD_pass (i := 27) rfl (by kernel_rfl) (by kernel_rfl) (by kernel_rfl) rfl rfl rfl rfl ?_
                refine JD_pass (i := 28) rfl (by kernel_rfl) (by kernel_rfl) (by kernel_rfl) rfl rfl rfl rfl ?_
                refine JD_pass (i := 29) rfl (by kernel_rfl) (by kernel_rfl) (by kernel_rfl) rfl rfl rfl rfl ?_
                refine JD_take (i := 30) hp46 rfl (by kernel_rfl) (by kernel_rfl) (by kernel_rfl) (wants_none rfl) rfl (ex_pick_true rfl rfl rfl) ?_
                refine JD_take (i := 31) hp46 rfl (by kernel_rfl) (by kernel_rfl) (by kernel_rfl) (wants_none rfl) rfl (ex_move rfl) ?_
                refine JD_pass (i := 32) rfl (by kernel_rfl) (by kernel_rfl) (by kernel_rfl) rfl rfl rfl rfl ?_
                refine JD_pass (i := 33) rfl (by kernel_rfl) (by kernel_rfl) (by kernel_rfl) rfl rfl rfl rfl ?_
                refine JD_pass (i := 34) rfl (by kernel_rfl) (by kernel_rfl) (by kernel_rfl) rfl rfl rfl rfl ?_
                refine JD_pass (i := 35) rfl (by kernel_rfl) (by kernel_rfl) (by kernel_rfl) rfl rfl rfl rfl ?_
                refine JD_pass (i := 36) rfl (by kernel_rfl) (by kernel_rfl) (by kernel_rfl) rfl rfl rfl rfl ?_
                refine JD_pass (i := 37) rfl (by kernel_rfl) (by kernel_rfl) (by kernel_rfl) rfl rfl rfl rfl ?_
                refine JD_pass (i := 38) rfl (by kernel_rfl) (by kernel_rfl) (by kernel_rfl) rfl rfl rfl rfl ?_
                refine JD_pass (i := 39) rfl (by kernel_rfl) (by kernel_rfl) (by kernel_rfl) rfl rfl rfl rfl ?_
                refine JD_pass (i := 40) rfl (by kernel_rfl) (by kernel_rfl) (by kernel_rfl) rfl rfl rfl rfl ?_
                refine JD_pass (i := 41) rfl (by kernel_rfl) (by kernel_rfl) (by kernel_rfl) rfl rfl rfl rfl ?_
                refine JD_take (i := 42) hp46 rfl (by kernel_rfl) (by kernel_rfl) (by kernel_rfl) (wants_none rfl) rfl (ex_pick_true rfl rfl rfl) ?_
                refine JD_done (by kernel_rfl) ?_
                refine N_then ?_
                refine J_if_true rfl rfl ?_
                refine J_seq ?_
                refine J_region ?_
                refine JL_q (wants_none rfl) rfl (ex_assign rfl) ?_
                refine JL_nil ?_
                refine N_then ?_
                refine J_ret ?_
                refine N_mid_ret ?_
                refine N_then_ret ?_
                exact N_ret1 rfl (rv_tmp rfl) (fun w hh => ⟨(), rfl, hh.sel [] rfl⟩)
              · refine JD_take (i := 12) hp46 rfl (by kernel_rfl) (by kernel_rfl) (by kernel_rfl) (wants_some rfl rfl rfl h51) rfl (ex_fieldAddr fi_31_1 rfl rfl) ?_
                refine JD_take (i := 13) hp46 rfl (by kernel_rfl) (by kernel_rfl) (by kernel_rfl) (wants_some rfl rfl rfl h51) rfl (ex_load_bx 3 ti_28 rfl rfl rfl) ?_
                refine JD_one (i := 14) (by kernel_rfl) ?_
                refine JO_q rfl (wants_some rfl rfl rfl h51) rfl (ex_len_ow 2 Tryd.underlying28 rfl rfl) ?_
                refine JD_take (i := 15) hp46 rfl (by kernel_rfl) (by kernel_rfl) (by kernel_rfl) (wants_some rfl rfl rfl h51) rfl (ex_neq rfl rfl) ?_
                refine JD_take (i := 16) hp46 rfl (by kernel_rfl) (by kernel_rfl) (by kernel_rfl) (wants_none rfl) rfl (ex_pick_false rfl h51 rfl) ?_
                refine JD_take (i := 17) hp46 rfl (by kernel_rfl) (by kernel_rfl) (by kernel_rfl) (wants_none rfl) rfl (ex_move rfl) ?_
                refine JD_cond (fun h52 => ?_) (fun h52 => ?_)
                · refine JD_pass (i := 18) rfl (by kernel_rfl) (by kernel_rfl) (by kernel_rfl) rfl rfl h52 rfl ?_
                  refine JD_pass (i := 19) rfl (by kernel_rfl) (by kernel_rfl) (by kernel_rfl) rfl rfl h52 rfl ?_
                  refine JD_pass (i := 20) rfl (by kernel_rfl) (by kernel_rfl) (by kernel_rfl) rfl rfl h52 rfl ?_
                  refine JD_pass (i := 21) rfl (by kernel_rfl) (by kernel_rfl) (by kernel_rfl) rfl rfl h52 rfl ?_
                  refine JD_pass (i := 22) rfl (by kernel_rfl) (by kernel_rfl) (by kernel_rfl) rfl rfl h52 rfl ?_
                  refine JD_take (i := 23) hp46 rfl (by kernel_rfl) (by kernel_rfl) (by kernel_rfl) (wants_none rfl) rfl (ex_pick_true rfl h52 rfl) ?_
                  refine JD_take (i := 24) hp46 rfl (by kernel_rfl) (by kernel_rfl) (by kernel_rfl) (wants_none rfl) rfl (ex_move rfl) ?_
                  refine JD_pass (i := 25) rfl (by kernel_rfl) (by kernel_rfl) (by kernel_rfl) rfl rfl rfl rfl ?_
                  refine JD_pass (i := 26) rfl (by kernel_rfl) (by kernel_rfl) (by kernel_rfl) rfl rfl rfl rfl ?_
                  refine JD_pass (i := 27) rfl (by kernel_rfl) (by kernel_rfl) (by kernel_rfl) rfl rfl rfl rfl ?_
                  refine JD_pass (i := 28) rfl (by kernel_rfl) (by kernel_rfl) (by kernel_rfl) rfl rfl rfl rfl ?_
                  refine JD_pass (i := 29) rfl (by kernel_rfl) (by kernel_rfl) (by kernel_rfl) rfl rfl rfl rfl ?_
                  refine JD_take (i := 30) hp46 rfl (by kernel_rfl) (by kernel_rfl) (by kernel_rfl) (wants_none rfl) rfl (ex_pick_true rfl rfl rfl) ?_
                  refine JD_take (i := 31) hp46 rfl (by kernel_rfl) (by kernel_rfl) (by kernel_rfl) (wants_none rfl) rfl (ex_move rfl) ?_
                  refine JD_pass (i := 32) rfl (by kernel_rfl) (by kernel_rfl) (by kernel_rfl) rfl rfl rfl rfl ?_
                  refine JD_pass (i := 33) rfl (by kernel_rfl) (by kernel_rfl) (by kernel_rfl) rfl rfl rfl rfl ?_
                  refine JD_pass (i := 34) rfl (by kernel_rfl) (by kernel_rfl) (by kernel_rfl) rfl rfl rfl rfl ?_
                  refine JD_pass (i := 35) rfl (by kernel_rfl) (by kernel_rfl) (by kernel_rfl) rfl rfl rfl rfl ?_
                  refine JD_pass (i := 36) rfl (by kernel_rfl) (by kernel_rfl) (by kernel_rfl) rfl rfl rfl rfl ?_
                  refine JD_pass (i := 37) rfl (by kernel_rfl) (by kernel_rfl) (by kernel_rfl) rfl rfl rfl rfl ?_
                  refine JD_pass (i := 38) rfl (by kernel_rfl) (by kernel_rfl) (by kernel_rfl) rfl rfl rfl rfl ?_
                  refine JD_pass (i := 39) rfl (by kernel_rfl) (by kernel_rfl) (by kernel_rfl) rfl rfl rfl rfl ?_
                  refine JD_pass (i := 40) rfl (by kernel_rfl) (by kernel_rfl) (by kernel_rfl) rfl rfl rfl rfl ?_
                  refine JD_pass (i := 41) rfl (by kernel_rfl) (by kernel_rfl) (by kernel_rfl) rfl rfl rfl rfl ?_
                  refine JD_take (i := 42) hp46 rfl (by kernel_rfl) (by kernel_rfl) (by kernel_rfl) (wants_none rfl) rfl (ex_pick_true rfl rfl rfl) ?_
                  refine JD_done (by kernel_rfl) ?_
                  refine N_then ?_
                  refine J_if_true rfl rfl ?_
                  refine J_seq ?_
                  refine J_region ?_
                  refine JL_q (wants_none rfl) rfl (ex_assign rfl) ?_
                  refine JL_nil ?_
                  refine N_then ?_
                  refine J_ret ?_
                  refine N_mid_ret ?_
                  refine N_then_ret ?_
                  exact N_ret1 rfl (rv_tmp rfl) (fun w hh => ⟨(), rfl, hh.sel [] rfl⟩)
                · refine JD_take (i := 18) hp46 rfl (by kernel_rfl) (by kernel_rfl) (by kernel_rfl) (wants_some rfl rfl rfl h52) rfl (ex_fieldAddr fi_31_1 rfl rfl) ?_
                  refine JD_take (i := 19) hp46 rfl (by kernel_rfl) (by kernel_rfl) (by kernel_rfl) (wants_some rfl rfl rfl h52) rfl (ex_load_bx 3 ti_28 rfl rfl rfl) ?_
                  refine JD_bnd fun y53 hy54 => ?_
                  refine JD_ow_open (v := x10_0) 2 rfl hy54 ?_; rintro b55 cap56 rfl
                  refine JD_take (i := 20) hp46 rfl (by kernel_rfl) (by kernel_rfl) (by kernel_rfl) (wants_some rfl rfl rfl h52) rfl (ex_index_own Tryd.underlying28 ti_2 rfl rfl hy54 (by first | rfl | simp)) ?_
                  refine JD_one (i := 21) (by kernel_rfl) ?_
                  refine JO_q rfl (wants_some rfl rfl rfl h52) rfl (ex_load_ow_int 2 ti_2 rfl rfl hy54) ?_
                  refine JD_take (i := 22) hp46 rfl (by kernel_rfl) (by kernel_rfl) (by kernel_rfl) (wants_some rfl rfl rfl h52) rfl (ex_lss rfl rfl) ?_
                  refine JD_take (i := 23) hp46 rfl (by kernel_rfl) (by kernel_rfl) (by kernel_rfl) (wants_none rfl) rfl (ex_pick_false rfl h52 rfl) ?_
                  refine JD_take (i := 24) hp46 rfl (by kernel_rfl) (by kernel_rfl) (by kernel_rfl) (wants_none rfl) rfl (ex_move rfl) ?_
                  refine JD_cond (fun h58 => ?_) (fun h58 => ?_)
                  · refine JD_pass (i := 25) rfl (by kernel_rfl) (by kernel_rfl) (by kernel_rfl) rfl rfl h58 rfl ?_
                    refine JD_pass (i := 26) rfl (by kernel_rfl) (by kernel_rfl) (by kernel_rfl) rfl rfl h58 rfl ?_
                    refine JD_pass (i := 27) rfl (by kernel_rfl) (by kernel_rfl) (by kernel_rfl) rfl rfl h58 rfl ?_
                    refine JD_pass (i := 28) rfl (by kernel_rfl) (by kernel_rfl) (by kernel_rfl) rfl rfl h58 rfl ?_
                    refine JD_pass (i := 29) rfl (by kernel_rfl) (by kernel_rfl) (by kernel_rfl) rfl rfl h58 rfl ?_
                    refine JD_take (i := 30) hp46 rfl (by kernel_rfl) (by kernel_rfl) (by kernel_rfl) (wants_none rfl) rfl (ex_pick_true rfl h58 rfl) ?_
                    refine JD_take (i := 31) hp46 rfl (by kernel_rfl) (by kernel_rfl) (by kernel_rfl) (wants_none rfl) rfl (ex_move rfl) ?_
                    refine JD_pass (i := 32) rfl (by kernel_rfl) (by kernel_rfl) (by kernel_rfl) rfl rfl rfl rfl ?_
                    refine JD_pass (i := 33) rfl (by kernel_rfl) (by kernel_rfl) (by kernel_rfl) rfl rfl rfl rfl ?_
                    refine JD_pass (i := 34) rfl (by kernel_rfl) (by kernel_rfl) (by kernel_rfl) rfl rfl rfl rfl ?_
                    refine JD_pass (i := 35) rfl (by kernel_rfl) (by kernel_rfl) (by kernel_rfl) rfl rfl rfl rfl ?_
                    refine JD_pass (i := 36) rfl (by kernel_rfl) (by kernel_rfl) (by kernel_rfl) rfl rfl rfl rfl ?_
                    refine JD_pass (i := 37) rfl (by kernel_rfl) (by kernel_rfl) (by kernel_rfl) rfl rfl rfl rfl ?_
                    refine JD_pass (i := 38) rfl (by kernel_rfl) (by kernel_rfl) (by kernel_rfl) rfl rfl rfl rfl ?_
                    refine JD_pass (i := 39) rfl (by kernel_rfl) (by kernel_rfl) (by kernel_rfl) rfl rfl rfl rfl ?_
                    refine JD_pass (i := 40) rfl (by kernel_rfl) (by kernel_rfl) (by kernel_rfl) rfl rfl rfl rfl ?_
                    refine JD_pass (i := 41) rfl (by kernel_rfl) (by kernel_rfl) (by kernel_rfl) rfl rfl rfl rfl ?_
                    refine JD_take (i := 42) hp46 rfl (by kernel_rfl) (by kernel_rfl) (by kernel_rfl) (wants_none rfl) rfl (ex_pick_true rfl rfl rfl) ?_
                    refine JD_done (by kernel_rfl) ?_
                    refine N_then ?_
                    refine J_if_true rfl rfl ?_
                    refine J_seq ?_
                    refine J_region ?_
                    refine JL_q (wants_none rfl) rfl (ex_assign rfl) ?_
                    refine JL_nil ?_
                    refine N_then ?_
                    refine J_ret ?_
                    refine N_mid_ret ?_
                    refine N_then_ret ?_
                    exact N_ret1 rfl (rv_tmp rfl) (fun w hh => ⟨(), rfl, hh.sel [] rfl⟩)
                  · refine JD_take (i := 25) hp46 rfl (by kernel_rfl) (by kernel_rfl) (by kernel_rfl) (wants_some rfl rfl rfl h58) rfl (ex_fieldAddr fi_31_1 rfl rfl) ?_
                    refine JD_take (i := 26) hp46 rfl (by kernel_rfl) (by kernel_rfl) (by kernel_rfl) (wants_some rfl rfl rfl h58) rfl (ex_load_bx 3 ti_28 rfl rfl rfl) ?_
                    refine JD_bnd fun y59 hy60 => ?_
                    refine JD_take (i := 27) hp46 rfl (by kernel_rfl) (by kernel_rfl) (by kernel_rfl) (wants_some rfl rfl rfl h58) rfl (ex_index_own Tryd.underlying28 ti_2 rfl rfl hy60 (by first | rfl | simp)) ?_
                    refine JD_one (i := 28) (by kernel_rfl) ?_
                    refine JO_q rfl (wants_some rfl rfl rfl h58) rfl (ex_load_ow_int 2 ti_2 rfl rfl hy60) ?_
                    refine JD_take (i := 29) hp46 rfl (by kernel_rfl) (by kernel_rfl) (by kernel_rfl) (wants_some rfl rfl rfl h58) rfl (ex_lss rfl rfl) ?_
                    refine JD_take (i := 30) hp46 rfl (by kernel_rfl) (by kernel_rfl) (by kernel_rfl) (wants_none rfl) rfl (ex_pick_false rfl h58 rfl) ?_
                    refine JD_take (i := 31) hp46 rfl (by kernel_rfl) (by kernel_rfl) (by kernel_rfl) (wants_none rfl) rfl (ex_move rfl) ?_
                    refine JD_cond (fun h62 => ?_) (fun h62 => ?_)
                    · refine JD_pass (i := 32) rfl (by kernel_rfl) (by kernel_rfl) (by kernel_rfl) rfl rfl h62 rfl ?_
                      refine JD_pass (i := 33) rfl (by kernel_rfl) (by kernel_rfl) (by kernel_rfl) rfl rfl h62 rfl ?_
                      refine JD_pass (i := 34) rfl (by kernel_rfl) (by kernel_rfl) (by kernel_rfl) rfl rfl h62 rfl ?_
                      refine JD_pass (i := 35) rfl (by kernel_rfl) (by kernel_rfl) (by kernel_rfl) rfl rfl h62 rfl ?_
                      refine JD_pass (i := 36) rfl (by kernel_rfl) (by kernel_rfl) (by kernel_rfl) rfl rfl h62 rfl ?_
                      refine JD_pass (i := 37) rfl (by kernel_rfl) (by kernel_rfl) (by kernel_rfl) rfl rfl h62 rfl ?_
                      refine JD_pass (i := 38) rfl (by kernel_rfl) (by kernel_rfl) (by kernel_rfl) rfl rfl h62 rfl ?_
                      refine JD_pass (i := 39) rfl (by kernel_rfl) (by kernel_rfl) (by kernel_rfl) rfl rfl h62 rfl ?_
                      refine JD_pass (i := 40) rfl (by kernel_rfl) (by kernel_rfl) (by kernel_rfl) rfl rfl h62 rfl ?_
                      refine JD_pass (i := 41) rfl (by kernel_rfl) (by kernel_rfl) (by kernel_rfl) rfl rfl h62 rfl ?_
                      refine JD_take (i := 42) hp46 rfl (by kernel_rfl) (by kernel_rfl) (by kernel_rfl) (wants_none rfl) rfl (ex_pick_true rfl h62 rfl) ?_
                      refine JD_done (by kernel_rfl) ?_
                      refine N_then ?_
                      refine J_if_true rfl rfl ?_
                      refine J_seq ?_
                      refine J_region ?_
                      refine JL_q (wants_none rfl) rfl (ex_assign rfl) ?_
                      refine JL_nil ?_
                      refine N_then ?_
                      refine J_ret ?_
                      refine N_mid_ret ?_
                      refine N_then_ret ?_
                      exact N_ret1 rfl (rv_tmp rfl) (fun w hh => ⟨(), rfl, hh.sel [] rfl⟩)
                    · refine JD_take (i := 32) hp46 rfl (by kernel_rfl) (by kernel_rfl) (by kernel_rfl) (wants_some rfl rfl rfl h62) rfl (ex_fieldAddr fi_31_1 rfl rfl) ?_
                      refine JD_take (i := 33) hp46 rfl (by kernel_rfl) (by kernel_rfl) (by kernel_rfl) (wants_some rfl rfl rfl h62) rfl (ex_load_bx 3 ti_28 rfl rfl rfl) ?_
                      refine JD_bnd fun y63 hy64 => ?_
                      refine JD_take (i := 34) hp46 rfl (by kernel_rfl) (by kernel_rfl) (by kernel_rfl) (wants_some rfl rfl rfl h62) rfl (ex_index_own Tryd.underlying28 ti_2 rfl rfl hy64 (by first | rfl | simp)) ?_
                      refine JD_take (i := 36) hp46 rfl (by kernel_rfl) (by kernel_rfl) (by kernel_rfl) (wants_some rfl rfl rfl h62) rfl (ex_fieldAddr fi_31_1 rfl rfl) ?_
                      refine JD_take (i := 37) hp46 rfl (by kernel_rfl) (by kernel_rfl) (by kernel_rfl) (wants_some rfl rfl rfl h62) rfl (ex_load_bx 3 ti_28 rfl rfl rfl) ?_
                      refine JD_bnd fun y65 hy66 => ?_
                      refine JD_take (i := 38) hp46 rfl (by kernel_rfl) (by kernel_rfl) (by kernel_rfl) (wants_some rfl rfl rfl h62) rfl (ex_index_own Tryd.underlying28 ti_2 rfl rfl hy66 (by first | rfl | simp)) ?_
                      refine JD_two (i := 35) (j := 39) (by kernel_rfl) ?_ ?_
                      · refine JO_q rfl (wants_some rfl rfl rfl h62) rfl (ex_load_ow_int 2 ti_2 rfl rfl hy64) ?_
                        refine JD_one (i := 39) (by kernel_rfl) ?_
                        refine JO_q rfl (wants_some rfl rfl rfl h62) rfl (ex_load_ow_int 2 ti_2 rfl rfl hy66) ?_
                        refine JD_take (i := 40) hp46 rfl (by kernel_rfl) (by kernel_rfl) (by kernel_rfl) (wants_some rfl rfl rfl h62) rfl (ex_add rfl rfl) ?_
                        refine JD_take (i := 41) hp46 rfl (by kernel_rfl) (by kernel_rfl) (by kernel_rfl) (wants_some rfl rfl rfl h62) rfl (ex_gtr rfl rfl) ?_
                        refine JD_take (i := 42) hp46 rfl (by kernel_rfl) (by kernel_rfl) (by kernel_rfl) (wants_none rfl) rfl (ex_pick_false rfl h62 rfl) ?_
                        refine JD_done (by kernel_rfl) ?_
                        refine N_then ?_
                        refine J_if rfl (fun h69 => ?_) (fun h69 => ?_)
                        · refine J_seq ?_
                          refine J_region ?_
                          refine JL_q (wants_none rfl) rfl (ex_assign rfl) ?_
                          refine JL_nil ?_
                          refine N_then ?_
                          refine J_ret ?_
                          refine N_mid_ret ?_
                          refine N_then_ret ?_
                          exact N_ret1 rfl (rv_tmp rfl) (fun w hh => ⟨(), rfl, hh.sel [] rfl⟩)
                        · refine J_skip ?_
                          exact N_meet' () ⟨rfl, rfl, trivial⟩ [0, 1, 2, 3, 4] rfl rfl
                      · refine JO_q rfl (wants_some rfl rfl rfl h62) rfl (ex_load_ow_int 2 ti_2 rfl rfl hy66) ?_
                        refine JD_one (i := 35) (by kernel_rfl) ?_
                        refine JO_q rfl (wants_some rfl rfl rfl h62) rfl (ex_load_ow_int 2 ti_2 rfl rfl hy64) ?_
                        refine JD_take (i := 40) hp46 rfl (by kernel_rfl) (by kernel_rfl) (by kernel_rfl) (wants_some rfl rfl rfl h62) rfl (ex_add rfl rfl) ?_
                        refine JD_take (i := 41) hp46 rfl (by kernel_rfl) (by kernel_rfl) (by kernel_rfl) (wants_some rfl rfl rfl h62) rfl (ex_gtr rfl rfl) ?_
                        refine JD_take (i := 42) hp46 rfl (by kernel_rfl) (by kernel_rfl) (by kernel_rfl) (wants_none rfl) rfl (ex_pick_false rfl h62 rfl) ?_
                        refine JD_done (by kernel_rfl) ?_
                        refine N_then ?_
                        refine J_if rfl (fun h72 => ?_) (fun h72 => ?_)
                        · refine J_seq ?_
                          refine J_region ?_
                          refine JL_q (wants_none rfl) rfl (ex_assign rfl) ?_
                          refine JL_nil ?_
                          refine N_then ?_
                          refine J_ret ?_
                          refine N_mid_ret ?_
                          refine N_then_ret ?_
                          exact N_ret1 rfl (rv_tmp rfl) (fun w hh => ⟨(), rfl, hh.sel [] rfl⟩)
                        · refine J_skip ?_
                          exact N_meet' () ⟨rfl, rfl, trivial⟩ [0, 1, 2, 3, 4] rfl rfl
        · refine N_then ?_
          refine J_seq ?_
          refine J_region ?_
          refine JL_q (wants_none rfl) rfl (ex_fieldAddr fi_31_1 rfl rfl) ?_
          refine JL_q (wants_none rfl) rfl (ex_load_bx 4 ti_28 rfl rfl rfl) ?_
          refine JL_bnd fun y73 hy74 => ?_
          refine JL_ow_open (v := x10_0) 2 rfl hy74 ?_; rintro b75 cap76 rfl
          refine JL_q (wants_none rfl) rfl (ex_index_ow 2 Tryd.underlying28 ti_2 rfl rfl rfl hy74) ?_
          refine JL_q (wants_none rfl) rfl (ex_load_ow_int 2 ti_2 rfl rfl hy74) ?_
          refine JL_q (wants_none rfl) rfl (ex_assign rfl) ?_
          refine JL_nil ?_
          refine N_then ?_
          refine J_seq ?_
          refine J_region ?_
          refine JL_q (wants_none rfl) rfl (ex_fieldAddr fi_31_1 rfl rfl) ?_
          refine JL_q (wants_none rfl) rfl (ex_load_bx 4 ti_28 rfl rfl rfl) ?_
          refine JL_bnd fun y78 hy79 => ?_
          refine JL_q (wants_none rfl) rfl (ex_index_ow 2 Tryd.underlying28 ti_2 rfl rfl rfl hy79) ?_
          refine JL_q (wants_none rfl) rfl (ex_load_ow_int 2 ti_2 rfl rfl hy79) ?_
          refine JL_q (wants_none rfl) rfl (ex_assign rfl) ?_
          refine JL_nil ?_
          refine N_then ?_
          refine J_seq ?_
          refine J_ctx (fun w hh => hh.tokf 0 rfl rfl) ?_
          refine J_cut' (S' := Int × (List Int) × (List Int) × Bool) (G' := Value × Value × Nat) (fun s81 g82 => [(5, .pointer (some ⟨b7, 0, none⟩)), (12, .int .i64 y73), (13, .int .i64 y78), (14, .pointer (some ⟨g82.2.2, 0, none⟩)), (15, .bool s81.2.2.2)]) (fun s81 g82 => [.rd x6 r4.Rules, .tkn x6 r4.Rules ((x6 : Value).ownBlock.toList ++ []), .bx b7 26 [.int .i64 r4.Symbols, .int .i64 r4.States, x6], .rd g82.1 s81.2.1, .rd g82.2.1 s81.2.2.1, .bx g82.2.2 35 [.int .i64 s81.1, g82.1, g82.2.1]]) ?_ (fun s81 g82 => ?_)
          · refine J_draw [] (by kernel_rfl) ?_
            refine JP_take (i := 0) [0, 1, 2, 3, 4, 5] [] rfl (by kernel_rfl) (by kernel_rfl) (by kernel_rfl) rfl rfl (wants_none rfl) rfl (ex_load_bx_agg 2 ti_26 rfl rfl rfl rfl) ?_
            refine JP_take (i := 2) [0, 1, 2, 3, 4, 5] [] rfl (by kernel_rfl) (by kernel_rfl) (by kernel_rfl) rfl rfl (wants_none rfl) rfl (ex_move rfl) ?_
            refine JP_go [0, 1, 2, 3, 4, 5] [] rfl rfl rfl (fun w84 h1_85 hp83 => ?_)
            refine JD_bnd fun r86 hr87 => ?_
            refine JD_two (i := 1) (j := 7) (by kernel_rfl) ?_ ?_
            · refine JO_call rfl (wants_none rfl) rfl Tryd.call8 rfl (Ca_self (fun _ => rfl) fun w hh => c_laws_r8Blank _ w (fun _ hk => hk.elim)  _ hr87) (fun x88 => ?_)
              obtain ⟨x88_0, x88_1⟩ := x88
              refine JD_bnd fun r89 hr90 => ?_
              refine JD_two (i := 3) (j := 7) (by kernel_rfl) ?_ ?_
              · refine JO_ctx (fun w hh => hh.tokf 0 rfl rfl) (tokf_owns (i := 0) rfl) ?_
                refine JO_ctx (fun w hh => hh.tokf 2 rfl rfl) (tokf_owns (i := 2) rfl) ?_
                refine JO_call rfl (wants_none rfl) rfl Tryd.call10 rfl (Ca_of (fun _ => rfl) fun w hh => c_laws_r8After _ w hh.av' _ _ (GMachine.rdmk (Rd.mk_int _ _ _) (Rd.mk_int _ _ _) (hh.rd 5 rfl)) _ _ (GConfig.rdmk (Rd.mk_int _ _ _) (hh.rd 2 rfl) (hh.rd 3 rfl)) _ _ hr90) (fun x91 => ?_)
                obtain ⟨x91_0, x91_1⟩ := x91
                refine JD_take (i := 4) hp83 rfl (by kernel_rfl) (by kernel_rfl) (by kernel_rfl) (wants_none rfl) rfl (ex_move rfl) ?_
                refine JD_take (i := 5) hp83 rfl (by kernel_rfl) (by kernel_rfl) (by kernel_rfl) (wants_none rfl) rfl (ex_extract rfl rfl) ?_
                refine JD_take (i := 6) hp83 rfl (by kernel_rfl) (by kernel_rfl) (by kernel_rfl) (wants_none rfl) rfl (ex_extract rfl rfl) ?_
                refine JD_one (i := 7) (by kernel_rfl) ?_
                refine JO_st rfl (wants_none rfl) rfl (st_alloc zi_35 rfl) (fun _ hk => nomatch hk) (fun b92 => ?_)
                refine JD_one (i := 8) (by kernel_rfl) ?_
                refine JO_sk2 0 [] [0, 1, 2, 3, 4, 5] [7, 8, 9, 10, 11, 12] rfl rfl rfl rfl rfl rfl (wants_none rfl) (sk_store_bx' 0 ti_35 rfl rfl (fun w hh => (cv_aggs ⟨cv_int, (hh.cv 1 rfl), (hh.cv 2 rfl), trivial⟩)) rfl rfl rfl rfl) (fun _ hk => hk) ?_
                refine JD_take (i := 9) hp83 rfl (by kernel_rfl) (by kernel_rfl) (by kernel_rfl) (wants_none rfl) rfl (ex_assign rfl) ?_
                refine JD_done (by kernel_rfl) ?_
                exact N_meet' (x91_0, x91_1, b92) ⟨rfl, rfl, rfl, rfl, rfl, trivial⟩ [8, 7, 9, 1, 2, 0] rfl rfl
              · refine JO_st rfl (wants_none rfl) rfl (st_alloc zi_35 rfl) (fun _ hk => nomatch hk) (fun b93 => ?_)
                refine JD_one (i := 3) (by kernel_rfl) ?_
                refine JO_ctx (fun w hh => hh.tokf 1 rfl rfl) (tokf_owns (i := 1) rfl) ?_
                refine JO_ctx (fun w hh => hh.tokf 3 rfl rfl) (tokf_owns (i := 3) rfl) ?_
                refine JO_call rfl (wants_none rfl) rfl Tryd.call10 rfl (Ca_of (fun _ => rfl) fun w hh => c_laws_r8After _ w hh.av' _ _ (GMachine.rdmk (Rd.mk_int _ _ _) (Rd.mk_int _ _ _) (hh.rd 6 rfl)) _ _ (GConfig.rdmk (Rd.mk_int _ _ _) (hh.rd 3 rfl) (hh.rd 4 rfl)) _ _ hr90) (fun x94 => ?_)
                obtain ⟨x94_0, x94_1⟩ := x94
                refine JD_take (i := 4) hp83 rfl (by kernel_rfl) (by kernel_rfl) (by kernel_rfl) (wants_none rfl) rfl (ex_move rfl) ?_
                refine JD_take (i := 5) hp83 rfl (by kernel_rfl) (by kernel_rfl) (by kernel_rfl) (wants_none rfl) rfl (ex_extract rfl rfl) ?_
                refine JD_take (i := 6) hp83 rfl (by kernel_rfl) (by kernel_rfl) (by kernel_rfl) (wants_none rfl) rfl (ex_extract rfl rfl) ?_
                refine JD_one (i := 8) (by kernel_rfl) ?_
                refine JO_sk2 4 [] [0, 1, 2, 3, 4, 5] [7, 8, 9, 10, 11, 12] rfl rfl rfl rfl rfl rfl (wants_none rfl) (sk_store_bx' 4 ti_35 rfl rfl (fun w hh => (cv_aggs ⟨cv_int, (hh.cv 0 rfl), (hh.cv 1 rfl), trivial⟩)) rfl rfl rfl rfl) (fun _ hk => hk) ?_
                refine JD_take (i := 9) hp83 rfl (by kernel_rfl) (by kernel_rfl) (by kernel_rfl) (wants_none rfl) rfl (ex_assign rfl) ?_
                refine JD_done (by kernel_rfl) ?_
                exact N_meet' (x94_0, x94_1, b93) ⟨rfl, rfl, rfl, rfl, rfl, trivial⟩ [8, 7, 9, 0, 1, 4] rfl rfl
            · refine JO_st rfl (wants_none rfl) rfl (st_alloc zi_35 rfl) (fun _ hk => nomatch hk) (fun b95 => ?_)
              refine JD_one (i := 1) (by kernel_rfl) ?_
              refine JO_call rfl (wants_none rfl) rfl Tryd.call8 rfl (Ca_self (fun _ => rfl) fun w hh => c_laws_r8Blank _ w (fun _ hk => hk.elim)  _ hr87) (fun x96 => ?_)
              obtain ⟨x96_0, x96_1⟩ := x96
              refine JD_bnd fun r97 hr98 => ?_
              refine JD_one (i := 3) (by kernel_rfl) ?_
              refine JO_ctx (fun w hh => hh.tokf 0 rfl rfl) (tokf_owns (i := 0) rfl) ?_
              refine JO_ctx (fun w hh => hh.tokf 2 rfl rfl) (tokf_owns (i := 2) rfl) ?_
              refine JO_call rfl (wants_none rfl) rfl Tryd.call10 rfl (Ca_of (fun _ => rfl) fun w hh => c_laws_r8After _ w hh.av' _ _ (GMachine.rdmk (Rd.mk_int _ _ _) (Rd.mk_int _ _ _) (hh.rd 6 rfl)) _ _ (GConfig.rdmk (Rd.mk_int _ _ _) (hh.rd 2 rfl) (hh.rd 3 rfl)) _ _ hr98) (fun x99 => ?_)
              obtain ⟨x99_0, x99_1⟩ := x99
              refine JD_take (i := 4) hp83 rfl (by kernel_rfl) (by kernel_rfl) (by kernel_rfl) (wants_none rfl) rfl (ex_move rfl) ?_
              refine JD_take (i := 5) hp83 rfl (by kernel_rfl) (by kernel_rfl) (by kernel_rfl) (wants_none rfl) rfl (ex_extract rfl rfl) ?_
              refine JD_take (i := 6) hp83 rfl (by kernel_rfl) (by kernel_rfl) (by kernel_rfl) (wants_none rfl) rfl (ex_extract rfl rfl) ?_
              refine JD_one (i := 8) (by kernel_rfl) ?_
              refine JO_sk2 6 [] [0, 1, 2, 3, 4, 5] [7, 8, 9, 10, 11, 12] rfl rfl rfl rfl rfl rfl (wants_none rfl) (sk_store_bx' 6 ti_35 rfl rfl (fun w hh => (cv_aggs ⟨cv_int, (hh.cv 0 rfl), (hh.cv 1 rfl), trivial⟩)) rfl rfl rfl rfl) (fun _ hk => hk) ?_
              refine JD_take (i := 9) hp83 rfl (by kernel_rfl) (by kernel_rfl) (by kernel_rfl) (wants_none rfl) rfl (ex_assign rfl) ?_
              refine JD_done (by kernel_rfl) ?_
              exact N_meet' (x99_0, x99_1, b95) ⟨rfl, rfl, rfl, rfl, rfl, trivial⟩ [8, 7, 9, 0, 1, 6] rfl rfl
          · obtain ⟨g82_0, g82_1, g82_2⟩ := g82
            refine N_then ?_
            refine J_seq ?_
            refine J_region ?_
            refine JL_q (wants_none rfl) rfl (ex_load_bx_agg 2 ti_26 rfl rfl rfl rfl) ?_
            refine JL_q (wants_none rfl) rfl (ex_load_bx_agg 5 ti_35 rfl rfl rfl rfl) ?_
            refine JL_q (wants_none rfl) rfl (ex_move rfl) ?_
            refine JL_bnd fun r100 hr101 => ?_
            refine JL_call (wants_none rfl) rfl Tryd.call10 rfl (Ca_of (fun _ => rfl) fun w hh => c_laws_r8After _ w hh.av' _ _ (GMachine.rdmk (Rd.mk_int _ _ _) (Rd.mk_int _ _ _) (hh.rd 0 rfl)) _ _ (GConfig.rdmk (Rd.mk_int _ _ _) (hh.rd 3 rfl) (hh.rd 4 rfl)) _ _ hr101) (fun x102 => ?_)
            obtain ⟨x102_0, x102_1⟩ := x102
            refine JL_q (wants_none rfl) rfl (ex_move rfl) ?_
            refine JL_q (wants_none rfl) rfl (ex_extract rfl rfl) ?_
            refine JL_q (wants_none rfl) rfl (ex_extract rfl rfl) ?_
            refine JL_st (wants_none rfl) rfl (st_alloc zi_35 rfl) (fun b103 => ?_)
            refine JL_sk (wants_none rfl) (sk_store_bx' 0 ti_35 rfl rfl (fun w hh => (cv_aggs ⟨cv_int, (hh.cv 1 rfl), (hh.cv 2 rfl), trivial⟩)) rfl rfl rfl rfl) ?_
            refine JL_q (wants_none rfl) rfl (ex_assign rfl) ?_
            refine JL_nil ?_
            refine N_then ?_
            refine J_seq ?_
            refine J_cut' (S' := Unit) (G' := Unit) (fun _ _ => [(5, .pointer (some ⟨b7, 0, none⟩)), (12, .int .i64 y73), (13, .int .i64 y78)]) (fun _ _ => [.rd x6 r4.Rules, .tkn x6 r4.Rules ((x6 : Value).ownBlock.toList ++ []), .bx b7 26 [.int .i64 r4.Symbols, .int .i64 r4.States, x6]]) ?_ (fun s104 g105 => ?_)
            · refine J_seq ?_
              refine J_region ?_
              refine JL_q (wants_none rfl) rfl (ex_move rfl) ?_
              refine JL_q (wants_none rfl) rfl (ex_not rfl) ?_
              refine JL_q (wants_none rfl) rfl (ex_move rfl) ?_
              refine JL_cond (fun h106 => ?_) (fun h106 => ?_)
              · refine JL_passed rfl rfl rfl h106 ?_
                refine JL_passed rfl rfl rfl h106 ?_
                refine JL_q (wants_none rfl) rfl (ex_pick_true rfl h106 rfl) ?_
                refine JL_q (wants_none rfl) rfl (ex_move rfl) ?_
                refine JL_passed rfl rfl rfl rfl ?_
                refine JL_passed rfl rfl rfl rfl ?_
                refine JL_passed rfl rfl rfl rfl ?_
                refine JL_passed rfl rfl rfl rfl ?_
                refine JL_q (wants_none rfl) rfl (ex_pick_true rfl rfl rfl) ?_
                refine JL_nil ?_
                refine N_then ?_
                refine J_if_true rfl rfl ?_
                refine J_seq ?_
                refine J_region ?_
                refine JL_q (wants_none rfl) rfl (ex_assign rfl) ?_
                refine JL_nil ?_
                refine N_then ?_
                refine J_ret ?_
                refine N_mid_ret ?_
                refine N_then_ret ?_
                exact N_ret1 rfl (rv_tmp rfl) (fun w hh => ⟨(), rfl, hh.sel [] rfl⟩)
              · refine JL_q (wants_some rfl rfl rfl h106) rfl (ex_move rfl) ?_
                refine JL_q (wants_some rfl rfl rfl h106) rfl (ex_not rfl) ?_
                refine JL_q (wants_none rfl) rfl (ex_pick_false rfl h106 rfl) ?_
                refine JL_q (wants_none rfl) rfl (ex_move rfl) ?_
                refine JL_cond (fun h107 => ?_) (fun h107 => ?_)
                · refine JL_passed rfl rfl rfl h107 ?_
                  refine JL_passed rfl rfl rfl h107 ?_
                  refine JL_passed rfl rfl rfl h107 ?_
                  refine JL_passed rfl rfl rfl h107 ?_
                  refine JL_q (wants_none rfl) rfl (ex_pick_true rfl h107 rfl) ?_
                  refine JL_nil ?_
                  refine N_then ?_
                  refine J_if_true rfl rfl ?_
                  refine J_seq ?_
                  refine J_region ?_
                  refine JL_q (wants_none rfl) rfl (ex_assign rfl) ?_
                  refine JL_nil ?_
                  refine N_then ?_
                  refine J_ret ?_
                  refine N_mid_ret ?_
                  refine N_then_ret ?_
                  exact N_ret1 rfl (rv_tmp rfl) (fun w hh => ⟨(), rfl, hh.sel [] rfl⟩)
                · refine JL_q (wants_some rfl rfl rfl h107) rfl (ex_load_bx_agg 8 ti_35 rfl rfl rfl rfl) ?_
                  refine JL_q (wants_some rfl rfl rfl h107) rfl (ex_load_bx_agg 0 ti_35 rfl rfl rfl rfl) ?_
                  refine JL_bnd fun r108 hr109 => ?_
                  refine JL_call (wants_some rfl rfl rfl h107) rfl Tryd.call11 rfl (Ca_of0 fun w hh => c_laws_r8Config _ w (fun _ hk => hk.elim) _ _ (GConfig.rdmk (Rd.mk_int _ _ _) (hh.rd0 6 rfl) (hh.rd0 7 rfl)) _ _ (GConfig.rdmk (Rd.mk_int _ _ _) (hh.rd0 1 rfl) (hh.rd0 2 rfl)) _ hr109) (fun _ => ?_)
                  refine JL_q (wants_some rfl rfl rfl h107) rfl (ex_not rfl) ?_
                  refine JL_q (wants_none rfl) rfl (ex_pick_false rfl h107 rfl) ?_
                  refine JL_nil ?_
                  refine N_then ?_
                  refine J_if rfl (fun h110 => ?_) (fun h110 => ?_)
                  · refine J_seq ?_
                    refine J_region ?_
                    refine JL_q (wants_none rfl) rfl (ex_assign rfl) ?_
                    refine JL_nil ?_
                    refine N_then ?_
                    refine J_ret ?_
                    refine N_mid_ret ?_
                    refine N_then_ret ?_
                    exact N_ret1 rfl (rv_tmp rfl) (fun w hh => ⟨(), rfl, hh.sel [] rfl⟩)
                  · refine J_skip ?_
                    exact N_meet' () ⟨rfl, rfl, rfl, trivial⟩ [3, 4, 5] rfl rfl
            · refine N_then ?_
              refine J_seq ?_
              refine J_seq ?_
              refine J_region ?_
              refine JL_q (wants_none rfl) rfl (ex_move rfl) ?_
              refine JL_q (wants_none rfl) rfl (ex_eql rfl rfl) ?_
              refine JL_nil ?_
              refine N_then ?_
              refine J_if rfl (fun h111 => ?_) (fun h111 => ?_)
              · refine J_seq ?_
                refine J_region ?_
                refine JL_q (wants_none rfl) rfl (ex_assign rfl) ?_
                refine JL_nil ?_
                refine N_then ?_
                refine J_ret ?_
                refine N_then_ret ?_
                exact N_ret1 rfl (rv_tmp rfl) (fun w hh => ⟨(), rfl, hh.sel [] rfl⟩)
              · refine J_skip ?_
                refine N_then ?_
                refine J_seq ?_
                refine J_cut' (S' := Int × (List Int) × (List Int) × Bool) (G' := Value × Value × Nat) (fun s112 g113 => [(5, .pointer (some ⟨b7, 0, none⟩)), (13, .int .i64 y78), (18, .pointer (some ⟨g113.2.2, 0, none⟩)), (19, .bool s112.2.2.2)]) (fun s112 g113 => [.rd x6 r4.Rules, .tkn x6 r4.Rules ((x6 : Value).ownBlock.toList ++ []), .bx b7 26 [.int .i64 r4.Symbols, .int .i64 r4.States, x6], .rd g113.1 s112.2.1, .rd g113.2.1 s112.2.2.1, .bx g113.2.2 35 [.int .i64 s112.1, g113.1, g113.2.1]]) ?_ (fun s112 g113 => ?_)
                · refine J_draw [] (by kernel_rfl) ?_
                  refine JP_take (i := 0) [0, 1, 2] [] rfl (by kernel_rfl) (by kernel_rfl) (by kernel_rfl) rfl rfl (wants_none rfl) rfl (ex_load_bx_agg 2 ti_26 rfl rfl rfl rfl) ?_
                  refine JP_take (i := 2) [0, 1, 2] [] rfl (by kernel_rfl) (by kernel_rfl) (by kernel_rfl) rfl rfl (wants_none rfl) rfl (ex_move rfl) ?_
                  refine JP_take (i := 3) [0, 1, 2] [] rfl (by kernel_rfl) (by kernel_rfl) (by kernel_rfl) rfl rfl (wants_none rfl) rfl (ex_sub rfl rfl) ?_
                  refine JP_go [0, 1, 2] [] rfl rfl rfl (fun w115 h1_116 hp114 => ?_)
                  refine JD_bnd fun r117 hr118 => ?_
                  refine JD_two (i := 1) (j := 8) (by kernel_rfl) ?_ ?_
                  · refine JO_call rfl (wants_none rfl) rfl Tryd.call8 rfl (Ca_self (fun _ => rfl) fun w hh => c_laws_r8Blank _ w (fun _ hk => hk.elim)  _ hr118) (fun x119 => ?_)
                    obtain ⟨x119_0, x119_1⟩ := x119
                    refine JD_bnd fun r120 hr121 => ?_
                    refine JD_two (i := 4) (j := 8) (by kernel_rfl) ?_ ?_
                    · refine JO_ctx (fun w hh => hh.tokf 0 rfl rfl) (tokf_owns (i := 0) rfl) ?_
                      refine JO_ctx (fun w hh => hh.tokf 2 rfl rfl) (tokf_owns (i := 2) rfl) ?_
                      refine JO_call rfl (wants_none rfl) rfl Tryd.call10 rfl (Ca_of (fun _ => rfl) fun w hh => c_laws_r8After _ w hh.av' _ _ (GMachine.rdmk (Rd.mk_int _ _ _) (Rd.mk_int _ _ _) (hh.rd 4 rfl)) _ _ (GConfig.rdmk (Rd.mk_int _ _ _) (hh.rd 2 rfl) (hh.rd 3 rfl)) _ _ hr121) (fun x122 => ?_)
                      obtain ⟨x122_0, x122_1⟩ := x122
                      refine JD_take (i := 5) hp114 rfl (by kernel_rfl) (by kernel_rfl) (by kernel_rfl) (wants_none rfl) rfl (ex_move rfl) ?_
                      refine JD_take (i := 6) hp114 rfl (by kernel_rfl) (by kernel_rfl) (by kernel_rfl) (wants_none rfl) rfl (ex_extract rfl rfl) ?_
                      refine JD_take (i := 7) hp114 rfl (by kernel_rfl) (by kernel_rfl) (by kernel_rfl) (wants_none rfl) rfl (ex_extract rfl rfl) ?_
                      refine JD_one (i := 8) (by kernel_rfl) ?_
                      refine JO_st rfl (wants_none rfl) rfl (st_alloc zi_35 rfl) (fun _ hk => nomatch hk) (fun b123 => ?_)
                      refine JD_one (i := 9) (by kernel_rfl) ?_
                      refine JO_sk2 0 [] [0, 1, 2] [7, 8, 9] rfl rfl rfl rfl rfl rfl (wants_none rfl) (sk_store_bx' 0 ti_35 rfl rfl (fun w hh => (cv_aggs ⟨cv_int, (hh.cv 1 rfl), (hh.cv 2 rfl), trivial⟩)) rfl rfl rfl rfl) (fun _ hk => hk) ?_
                      refine JD_take (i := 10) hp114 rfl (by kernel_rfl) (by kernel_rfl) (by kernel_rfl) (wants_none rfl) rfl (ex_assign rfl) ?_
                      refine JD_done (by kernel_rfl) ?_
                      exact N_meet' (x122_0, x122_1, b123) ⟨rfl, rfl, rfl, rfl, trivial⟩ [7, 8, 9, 1, 2, 0] rfl rfl
                    · refine JO_st rfl (wants_none rfl) rfl (st_alloc zi_35 rfl) (fun _ hk => nomatch hk) (fun b124 => ?_)
                      refine JD_one (i := 4) (by kernel_rfl) ?_
                      refine JO_ctx (fun w hh => hh.tokf 1 rfl rfl) (tokf_owns (i := 1) rfl) ?_
                      refine JO_ctx (fun w hh => hh.tokf 3 rfl rfl) (tokf_owns (i := 3) rfl) ?_
                      refine JO_call rfl (wants_none rfl) rfl Tryd.call10 rfl (Ca_of (fun _ => rfl) fun w hh => c_laws_r8After _ w hh.av' _ _ (GMachine.rdmk (Rd.mk_int _ _ _) (Rd.mk_int _ _ _) (hh.rd 5 rfl)) _ _ (GConfig.rdmk (Rd.mk_int _ _ _) (hh.rd 3 rfl) (hh.rd 4 rfl)) _ _ hr121) (fun x125 => ?_)
                      obtain ⟨x125_0, x125_1⟩ := x125
                      refine JD_take (i := 5) hp114 rfl (by kernel_rfl) (by kernel_rfl) (by kernel_rfl) (wants_none rfl) rfl (ex_move rfl) ?_
                      refine JD_take (i := 6) hp114 rfl (by kernel_rfl) (by kernel_rfl) (by kernel_rfl) (wants_none rfl) rfl (ex_extract rfl rfl) ?_
                      refine JD_take (i := 7) hp114 rfl (by kernel_rfl) (by kernel_rfl) (by kernel_rfl) (wants_none rfl) rfl (ex_extract rfl rfl) ?_
                      refine JD_one (i := 9) (by kernel_rfl) ?_
                      refine JO_sk2 4 [] [0, 1, 2] [7, 8, 9] rfl rfl rfl rfl rfl rfl (wants_none rfl) (sk_store_bx' 4 ti_35 rfl rfl (fun w hh => (cv_aggs ⟨cv_int, (hh.cv 0 rfl), (hh.cv 1 rfl), trivial⟩)) rfl rfl rfl rfl) (fun _ hk => hk) ?_
                      refine JD_take (i := 10) hp114 rfl (by kernel_rfl) (by kernel_rfl) (by kernel_rfl) (wants_none rfl) rfl (ex_assign rfl) ?_
                      refine JD_done (by kernel_rfl) ?_
                      exact N_meet' (x125_0, x125_1, b124) ⟨rfl, rfl, rfl, rfl, trivial⟩ [7, 8, 9, 0, 1, 4] rfl rfl
                  · refine JO_st rfl (wants_none rfl) rfl (st_alloc zi_35 rfl) (fun _ hk => nomatch hk) (fun b126 => ?_)
                    refine JD_one (i := 1) (by kernel_rfl) ?_
                    refine JO_call rfl (wants_none rfl) rfl Tryd.call8 rfl (Ca_self (fun _ => rfl) fun w hh => c_laws_r8Blank _ w (fun _ hk => hk.elim)  _ hr118) (fun x127 => ?_)
                    obtain ⟨x127_0, x127_1⟩ := x127
                    refine JD_bnd fun r128 hr129 => ?_
                    refine JD_one (i := 4) (by kernel_rfl) ?_
                    refine JO_ctx (fun w hh => hh.tokf 0 rfl rfl) (tokf_owns (i := 0) rfl) ?_
                    refine JO_ctx (fun w hh => hh.tokf 2 rfl rfl) (tokf_owns (i := 2) rfl) ?_
                    refine JO_call rfl (wants_none rfl) rfl Tryd.call10 rfl (Ca_of (fun _ => rfl) fun w hh => c_laws_r8After _ w hh.av' _ _ (GMachine.rdmk (Rd.mk_int _ _ _) (Rd.mk_int _ _ _) (hh.rd 5 rfl)) _ _ (GConfig.rdmk (Rd.mk_int _ _ _) (hh.rd 2 rfl) (hh.rd 3 rfl)) _ _ hr129) (fun x130 => ?_)
                    obtain ⟨x130_0, x130_1⟩ := x130
                    refine JD_take (i := 5) hp114 rfl (by kernel_rfl) (by kernel_rfl) (by kernel_rfl) (wants_none rfl) rfl (ex_move rfl) ?_
                    refine JD_take (i := 6) hp114 rfl (by kernel_rfl) (by kernel_rfl) (by kernel_rfl) (wants_none rfl) rfl (ex_extract rfl rfl) ?_
                    refine JD_take (i := 7) hp114 rfl (by kernel_rfl) (by kernel_rfl) (by kernel_rfl) (wants_none rfl) rfl (ex_extract rfl rfl) ?_
                    refine JD_one (i := 9) (by kernel_rfl) ?_
                    refine JO_sk2 6 [] [0, 1, 2] [7, 8, 9] rfl rfl rfl rfl rfl rfl (wants_none rfl) (sk_store_bx' 6 ti_35 rfl rfl (fun w hh => (cv_aggs ⟨cv_int, (hh.cv 0 rfl), (hh.cv 1 rfl), trivial⟩)) rfl rfl rfl rfl) (fun _ hk => hk) ?_
                    refine JD_take (i := 10) hp114 rfl (by kernel_rfl) (by kernel_rfl) (by kernel_rfl) (wants_none rfl) rfl (ex_assign rfl) ?_
                    refine JD_done (by kernel_rfl) ?_
                    exact N_meet' (x130_0, x130_1, b126) ⟨rfl, rfl, rfl, rfl, trivial⟩ [7, 8, 9, 0, 1, 6] rfl rfl
                · obtain ⟨g113_0, g113_1, g113_2⟩ := g113
                  refine N_then ?_
                  refine J_seq ?_
                  refine J_region ?_
                  refine JL_q (wants_none rfl) rfl (ex_load_bx_agg 2 ti_26 rfl rfl rfl rfl) ?_
                  refine JL_q (wants_none rfl) rfl (ex_load_bx_agg 5 ti_35 rfl rfl rfl rfl) ?_
                  refine JL_q (wants_none rfl) rfl (ex_move rfl) ?_
                  refine JL_bnd fun r131 hr132 => ?_
                  refine JL_call (wants_none rfl) rfl Tryd.call10 rfl (Ca_of (fun _ => rfl) fun w hh => c_laws_r8After _ w hh.av' _ _ (GMachine.rdmk (Rd.mk_int _ _ _) (Rd.mk_int _ _ _) (hh.rd 0 rfl)) _ _ (GConfig.rdmk (Rd.mk_int _ _ _) (hh.rd 3 rfl) (hh.rd 4 rfl)) _ _ hr132) (fun x133 => ?_)
                  obtain ⟨x133_0, x133_1⟩ := x133
                  refine JL_q (wants_none rfl) rfl (ex_move rfl) ?_
                  refine JL_q (wants_none rfl) rfl (ex_extract rfl rfl) ?_
                  refine JL_q (wants_none rfl) rfl (ex_extract rfl rfl) ?_
                  refine JL_st (wants_none rfl) rfl (st_alloc zi_35 rfl) (fun b134 => ?_)
                  refine JL_sk (wants_none rfl) (sk_store_bx' 0 ti_35 rfl rfl (fun w hh => (cv_aggs ⟨cv_int, (hh.cv 1 rfl), (hh.cv 2 rfl), trivial⟩)) rfl rfl rfl rfl) ?_
                  refine JL_q (wants_none rfl) rfl (ex_assign rfl) ?_
                  refine JL_nil ?_
                  refine N_then ?_
                  refine J_seq ?_
                  refine J_region ?_
                  refine JL_q (wants_none rfl) rfl (ex_move rfl) ?_
                  refine JL_q (wants_none rfl) rfl (ex_move rfl) ?_
                  refine JL_cond (fun h135 => ?_) (fun h135 => ?_)
                  · refine JL_q (wants_some rfl rfl rfl h135) rfl (ex_move rfl) ?_
                    refine JL_q (wants_none rfl) rfl (ex_pick_true rfl h135 rfl) ?_
                    refine JL_q (wants_none rfl) rfl (ex_move rfl) ?_
                    refine JL_cond (fun h136 => ?_) (fun h136 => ?_)
                    · refine JL_q (wants_some rfl rfl rfl h136) rfl (ex_load_bx_agg 8 ti_35 rfl rfl rfl rfl) ?_
                      refine JL_q (wants_some rfl rfl rfl h136) rfl (ex_load_bx_agg 0 ti_35 rfl rfl rfl rfl) ?_
                      refine JL_bnd fun r137 hr138 => ?_
                      refine JL_call (wants_some rfl rfl rfl h136) rfl Tryd.call11 rfl (Ca_of0 fun w hh => c_laws_r8Config _ w (fun _ hk => hk.elim) _ _ (GConfig.rdmk (Rd.mk_int _ _ _) (hh.rd0 6 rfl) (hh.rd0 7 rfl)) _ _ (GConfig.rdmk (Rd.mk_int _ _ _) (hh.rd0 1 rfl) (hh.rd0 2 rfl)) _ hr138) (fun _ => ?_)
                      refine JL_q (wants_some rfl rfl rfl h136) rfl (ex_not rfl) ?_
                      refine JL_q (wants_none rfl) rfl (ex_pick_true rfl h136 rfl) ?_
                      refine JL_q (wants_none rfl) rfl (ex_assign rfl) ?_
                      refine JL_nil ?_
                      refine N_then ?_
                      refine J_ret ?_
                      exact N_ret1 rfl (rv_tmp rfl) (fun w hh => ⟨(), rfl, hh.sel [] rfl⟩)
                    · refine JL_passed rfl rfl rfl h136 ?_
                      refine JL_passed rfl rfl rfl h136 ?_
                      refine JL_passed rfl rfl rfl h136 ?_
                      refine JL_passed rfl rfl rfl h136 ?_
                      refine JL_q (wants_none rfl) rfl (ex_pick_false rfl h136 rfl) ?_
                      refine JL_q (wants_none rfl) rfl (ex_assign rfl) ?_
                      refine JL_nil ?_
                      refine N_then ?_
                      refine J_ret ?_
                      exact N_ret1 rfl (rv_tmp rfl) (fun w hh => ⟨(), rfl, hh.sel [] rfl⟩)
                  · refine JL_passed rfl rfl rfl h135 ?_
                    refine JL_q (wants_none rfl) rfl (ex_pick_false rfl h135 rfl) ?_
                    refine JL_q (wants_none rfl) rfl (ex_move rfl) ?_
                    refine JL_passed rfl rfl rfl rfl ?_
                    refine JL_passed rfl rfl rfl rfl ?_
                    refine JL_passed rfl rfl rfl rfl ?_
                    refine JL_passed rfl rfl rfl rfl ?_
                    refine JL_q (wants_none rfl) rfl (ex_pick_false rfl rfl rfl) ?_
                    refine JL_q (wants_none rfl) rfl (ex_assign rfl) ?_
                    refine JL_nil ?_
                    refine N_then ?_
                    refine J_ret ?_
                    exact N_ret1 rfl (rv_tmp rfl) (fun w hh => ⟨(), rfl, hh.sel [] rfl⟩)

end Go.Proofs.YtfinlgodcokmpaaDoor
