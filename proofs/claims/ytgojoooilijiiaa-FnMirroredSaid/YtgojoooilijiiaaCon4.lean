/-
  Each function of the program computes what its plain function says: printed by program. No condition.
-/
import Derived.Test.YtgojoooilijiiaaFn
import Derived.Test.YtgojoooilijiiaaInf
import Derived.Test.YtgojoooilijiiaaCon1
import Derived.Test.YtgojoooilijiiaaCon2
import Derived.Test.YtgojoooilijiiaaCon3
namespace Go.Proofs.Ytgojoooilijiiaa
open Go Go.Tc Go.Fn
set_option linter.unusedVariables false

set_option maxHeartbeats 40000000 in
theorem c_impl_StepMachine (A : Nat → Prop) (w : World) (hA : ∀ k, A k → k < w.heap.size) (v0_ : Value) (p0 : GMachine) (hp0 : Rd A w v0_ p0) (v1_ : Value) (p1 : GConfig) (hp1 : Rd A w v1_ p1) (r : GConfig × Int) (hr : F_impl_StepMachine p0 p1 = some r) :
    Con Try.prog 11 [v0_, v1_] A w (fun x_ : Value × Value => .tuple #[.agg #[.int .i64 r.1.State, x_.1, x_.2], .int .i64 r.2]) (fun x_ => [.ow 2 x_.1 r.1.Left, .ow 2 x_.2 r.1.Right]) := by
  obtain ⟨v0_0, rfl, hp0_0⟩ := GMachine.open hp0
  obtain ⟨v1_0, v1_1, rfl, hp1_0, hp1_1⟩ := GConfig.open hp1
  refine Con_of (v := fun (r : GConfig × Int) (x_ : Value × Value) => .tuple #[.agg #[.int .i64 r.1.State, x_.1, x_.2], .int .i64 r.2]) (fs := fun r x_ => [.ow 2 x_.1 r.1.Left, .ow 2 x_.2 r.1.Right]) Try.func11 rfl Try.ntmps11 rfl ((((SH.start hA).start_rd rfl hp0_0).start_rd rfl hp1_0).start_rd rfl hp1_1) rfl ?_ hr
  unfold F_impl_StepMachine
  refine J_seq ?_
  refine J_region ?_
  refine JL_st (wants_none rfl) rfl (st_box' rfl (fun w hh => (cv_aggs ⟨cv_int, cv_int, (hh.cv 2 rfl), trivial⟩))) (fun b1 => ?_)
  refine JL_st (wants_none rfl) rfl (st_box' rfl (fun w hh => (cv_aggs ⟨cv_int, (hh.cv 2 rfl), (hh.cv 1 rfl), trivial⟩))) (fun b2 => ?_)
  refine JL_st (wants_none rfl) rfl (st_alloc zi_29 rfl) (fun b3 => ?_)
  refine JL_q (wants_none rfl) rfl (ex_assign rfl) ?_
  refine JL_nil ?_
  refine N_then ?_
  refine J_seq ?_
  refine J_seq ?_
  refine J_region ?_
  refine JL_q (wants_none rfl) rfl (ex_load_bx_agg 2 ti_26 rfl rfl rfl rfl) ?_
  refine JL_q (wants_none rfl) rfl (ex_load_bx_agg 1 ti_29 rfl rfl rfl rfl) ?_
  refine JL_bnd fun r4 hr5 => ?_
  refine JL_call (wants_none rfl) rfl Try.call41 rfl (Ca_of0 fun w hh => c_impl_ValidConfig _ w (fun _ hk => hk.elim) _ _ (GMachine.rdmk (Rd.mk_int _ _ _) (Rd.mk_int _ _ _) (hh.rd0 5 rfl)) _ _ (GConfig.rdmk (Rd.mk_int _ _ _) (hh.rd0 4 rfl) (hh.rd0 3 rfl)) _ hr5) (fun _ => ?_)
  refine JL_q (wants_none rfl) rfl (ex_not rfl) ?_
  refine JL_nil ?_
  refine N_then ?_
  refine J_if rfl (fun h6 => ?_) (fun h6 => ?_)
  · refine J_seq ?_
    refine J_region ?_
    refine JL_q (wants_none rfl) rfl (ex_build si_29 rfl .nil (fun w hh => trivial)) ?_
    refine JL_sk (wants_none rfl) (sk_store_bx' 0 ti_29 rfl rfl (fun w hh => (cv_aggs ⟨cv_int, cv_slice, cv_slice, trivial⟩)) rfl rfl rfl rfl) ?_
    refine JL_q (wants_none rfl) rfl (ex_assign rfl) ?_
    refine JL_nil ?_
    refine N_then ?_
    refine J_ret ?_
    refine N_then_ret ?_
    refine N_ctx (fun w hh => SH.ow_nil (α := Int) 2 hh) ?_
    refine N_ctx (fun w hh => SH.ow_nil (α := Int) 2 hh) ?_
    exact N_ret2 rfl (rv_cell 2 rfl rfl ti_29 rfl) (rv_tmp rfl) (fun w hh => ⟨((.slice none 0 0 : Value), (.slice none 0 0 : Value)), rfl, hh.sel [1, 0] rfl⟩)
  · refine J_skip ?_
    refine N_then ?_
    refine J_seq ?_
    refine J_region ?_
    refine JL_q (wants_none rfl) rfl (ex_load_bx_agg 2 ti_26 rfl rfl rfl rfl) ?_
    refine JL_q (wants_none rfl) rfl (ex_load_bx_agg 1 ti_29 rfl rfl rfl rfl) ?_
    refine JL_bnd fun r7 hr8 => ?_
    refine JL_call (wants_none rfl) rfl Try.call49 rfl (Ca_of (fun _ => rfl) fun w hh => c_impl_runnerOf _ w hh.av' _ _ (GMachine.rdmk (Rd.mk_int _ _ _) (Rd.mk_int _ _ _) (hh.rd 5 rfl)) _ _ (GConfig.rdmk (Rd.mk_int _ _ _) (hh.rd 4 rfl) (hh.rd 3 rfl)) _ hr8) (fun x9 => ?_)
    obtain ⟨x9_0, x9_1, x9_2, x9_3⟩ := x9
    refine JL_q (wants_none rfl) rfl (ex_assign rfl) ?_
    refine JL_nil ?_
    refine N_then ?_
    refine J_seq ?_
    refine J_block ?_
    refine J_seq ?_
    refine J_region ?_
    refine JL_q (wants_none rfl) rfl (ex_move rfl) ?_
    refine JL_bnd fun r10 hr11 => ?_
    refine JL_call (wants_none rfl) rfl Try.call50 rfl (Ca_of0 fun w hh => c_impl_runner_halts _ w (fun _ hk => hk.elim) _ _ (hh.bx_pa 3 rfl (Grunner.rdmk (Rd.mk_int _ _ _) (Rd.mk_int _ _ _) (hh.rd0 0 rfl) (Rd.mk_int _ _ _) (hh.ow0 1 rfl) (hh.ow0 2 rfl)) rfl) _ hr11) (fun _ => ?_)
    refine JL_q (wants_none rfl) rfl (ex_assign rfl) ?_
    refine JL_nil ?_
    refine N_then ?_
    refine J_if rfl (fun h12 => ?_) (fun h12 => ?_)
    · refine J_seq ?_
      refine J_region ?_
      refine JL_q (wants_none rfl) rfl (ex_build si_29 rfl .nil (fun w hh => trivial)) ?_
      refine JL_sk (wants_none rfl) (sk_store_bx' 4 ti_29 rfl rfl (fun w hh => (cv_aggs ⟨cv_int, cv_slice, cv_slice, trivial⟩)) rfl rfl rfl rfl) ?_
      refine JL_q (wants_none rfl) rfl (ex_assign rfl) ?_
      refine JL_nil ?_
      refine N_then ?_
      refine J_ret ?_
      refine N_block_ret ?_
      refine N_then_ret ?_
      refine N_ctx (fun w hh => SH.ow_nil (α := Int) 2 hh) ?_
      refine N_ctx (fun w hh => SH.ow_nil (α := Int) 2 hh) ?_
      exact N_ret2 rfl (rv_cell 6 rfl rfl ti_29 rfl) (rv_tmp rfl) (fun w hh => ⟨((.slice none 0 0 : Value), (.slice none 0 0 : Value)), rfl, hh.sel [1, 0] rfl⟩)
    · refine J_seq ?_
      refine J_region ?_
      refine JL_q (wants_none rfl) rfl (ex_move rfl) ?_
      refine JL_bnd fun r13 hr14 => ?_
      refine JL_callT (wants_none rfl) rfl Try.call51 rfl (CaT_of [3, 1, 2] [0, 4, 5, 6, 7, 8, 9] rfl rfl (fun _ => rfl) fun w hh => c_impl_runner_step w x9_3 (⟨r7.1, r7.2.1, r7.2.2.1, r7.2.2.2.1, r7.2.2.2.2.1, r7.2.2.2.2.2⟩ : Grunner) x9_0 x9_1 x9_2 _ rfl (hh.handed [3, 1, 2] rfl rfl rfl rfl) (hh.apart [3, 1, 2] rfl (hh.rd 0 rfl)) _ hr14) (fun x15 => ?_)
      obtain ⟨x15_0, x15_1⟩ := x15
      refine JL_q (wants_none rfl) rfl (ex_not rfl) ?_
      refine JL_q (wants_none rfl) rfl (ex_assign rfl) ?_
      refine JL_nil ?_
      refine N_then ?_
      refine J_if rfl (fun h16 => ?_) (fun h16 => ?_)
      · refine J_seq ?_
        refine J_region ?_
        refine JL_q (wants_none rfl) rfl (ex_build si_29 rfl .nil (fun w hh => trivial)) ?_
        refine JL_sk (wants_none rfl) (sk_store_bx' 4 ti_29 rfl rfl (fun w hh => (cv_aggs ⟨cv_int, cv_slice, cv_slice, trivial⟩)) rfl rfl rfl rfl) ?_
        refine JL_q (wants_none rfl) rfl (ex_assign rfl) ?_
        refine JL_nil ?_
        refine N_then ?_
        refine J_ret ?_
        refine N_block_ret ?_
        refine N_then_ret ?_
        refine N_ctx (fun w hh => SH.ow_nil (α := Int) 2 hh) ?_
        refine N_ctx (fun w hh => SH.ow_nil (α := Int) 2 hh) ?_
        exact N_ret2 rfl (rv_cell 6 rfl rfl ti_29 rfl) (rv_tmp rfl) (fun w hh => ⟨((.slice none 0 0 : Value), (.slice none 0 0 : Value)), rfl, hh.sel [1, 0] rfl⟩)
      · refine J_skip ?_
        refine N_block ?_
        refine N_then ?_
        refine J_seq ?_
        refine J_region ?_
        refine JL_q (wants_none rfl) rfl (ex_move rfl) ?_
        refine JL_bnd fun r17 hr18 => ?_
        refine JL_call (wants_none rfl) rfl Try.call52 rfl (Ca_self (fun _ => rfl) fun w hh => c_impl_runner_config _ w (fun _ hk => hk.elim) _ _ (hh.bx_pa 0 rfl (Grunner.rdmk (Rd.mk_int _ _ _) (Rd.mk_int _ _ _) (hh.rd0 3 rfl) (Rd.mk_int _ _ _) (hh.ow0 1 rfl) (hh.ow0 2 rfl)) rfl) _ hr18) (fun x19 => ?_)
        obtain ⟨x19_0, x19_1⟩ := x19
        refine JL_sk (wants_none rfl) (sk_store_bx' 6 ti_29 rfl rfl (fun w hh => (cv_aggs ⟨cv_int, (hh.cv_ow 0 rfl), (hh.cv_ow 1 rfl), trivial⟩)) rfl rfl rfl rfl) ?_
        refine JL_q (wants_none rfl) rfl (ex_assign rfl) ?_
        refine JL_nil ?_
        refine N_then ?_
        refine J_ret ?_
        exact N_ret2 rfl (rv_cell 6 rfl rfl ti_29 rfl) (rv_tmp rfl) (fun w hh => ⟨(x19_0, x19_1), rfl, hh.sel [0, 1] rfl⟩)

set_option maxHeartbeats 40000000 in
theorem c_laws_FnMirrored (A : Nat → Prop) (w : World) (hA : ∀ k, A k → k < w.heap.size) (v0_ : Value) (p0 : (List (Ik .u8))) (hp0 : Rd A w v0_ p0) (v1_ : Value) (p1 : (List (Ik .u8))) (hp1 : Rd A w v1_ p1) (r : Bool) (hr : F_laws_FnMirrored p0 p1 = some r) :
    Con Try.prog 3 [v0_, v1_] A w (fun x_ : Unit => .bool r) (fun x_ => []) := by
  refine Con_of (v := fun (r : Bool) (x_ : Unit) => .bool r) (fs := fun r x_ => []) Try.func3 rfl Try.ntmps3 rfl (((SH.start hA).start_rd rfl hp0).start_rd rfl hp1) rfl ?_ hr
  unfold F_laws_FnMirrored
  refine J_seq ?_
  refine J_region ?_
  refine JL_q (wants_none rfl) rfl (ex_assign rfl) ?_
  refine JL_nil ?_
  refine N_then ?_
  refine J_seq ?_
  refine J_seq ?_
  refine J_region ?_
  refine JL_q (wants_none rfl) rfl (ex_move rfl) ?_
  refine JL_q (wants_none rfl) rfl (ex_move rfl) ?_
  refine JL_bnd fun r1 hr2 => ?_
  refine JL_call (wants_none rfl) rfl Try.call6 rfl (Ca_of0 fun w hh => c_laws_r8Long _ w (fun _ hk => hk.elim) _ _ (hh.rd0 1 rfl) _ _ (hh.rd0 0 rfl) _ hr2) (fun _ => ?_)
  refine JL_nil ?_
  refine N_then ?_
  refine J_if rfl (fun h3 => ?_) (fun h3 => ?_)
  · refine J_seq ?_
    refine J_region ?_
    refine JL_q (wants_none rfl) rfl (ex_assign rfl) ?_
    refine JL_nil ?_
    refine N_then ?_
    refine J_ret ?_
    refine N_then_ret ?_
    exact N_ret1 rfl (rv_tmp rfl) (fun w hh => ⟨(), rfl, hh.sel [] rfl⟩)
  · refine J_skip ?_
    refine N_then ?_
    refine J_seq ?_
    refine J_region ?_
    refine JL_q (wants_none rfl) rfl (ex_move rfl) ?_
    refine JL_bnd fun r4 hr5 => ?_
    refine JL_call (wants_none rfl) rfl Try.call7 rfl (Ca_self (fun _ => rfl) fun w hh => c_spec_R8Machine _ w (fun _ hk => hk.elim) _ _ (hh.rd0 1 rfl) _ hr5) (fun x6 => ?_)
    obtain ⟨x6_0, x6_1, x6_2, x6_3⟩ := x6
    refine JL_ctx (fun w hh => hh.tkn_rd 0 rfl) ?_
    refine JL_q (wants_none rfl) rfl (ex_move rfl) ?_
    refine JL_q (wants_none rfl) rfl (ex_extract rfl rfl) ?_
    refine JL_q (wants_none rfl) rfl (ex_extract rfl rfl) ?_
    refine JL_st (wants_none rfl) rfl (st_alloc zi_26 rfl) (fun b7 => ?_)
    refine JL_st (wants_none rfl) rfl (st_alloc zi_29 rfl) (fun b8 => ?_)
    refine JL_sk (wants_none rfl) (sk_store_bx' 1 ti_26 rfl rfl (fun w hh => (cv_aggs ⟨cv_int, cv_int, (hh.cv 2 rfl), trivial⟩)) rfl rfl rfl rfl) ?_
    refine JL_sk (wants_none rfl) (sk_store_bx' 0 ti_29 rfl rfl (fun w hh => (cv_aggs ⟨cv_int, (hh.cv_ow 4 rfl), (hh.cv_ow 5 rfl), trivial⟩)) rfl rfl rfl rfl) ?_
    refine JL_nil ?_
    refine N_then ?_
    refine J_seq ?_
    refine J_region ?_
    refine JL_q (wants_none rfl) rfl (ex_load_bx_agg 1 ti_26 rfl rfl rfl rfl) ?_
    refine JL_bnd fun r9 hr10 => ?_
    refine JL_call (wants_none rfl) rfl Try.call8 rfl (Ca_self (fun _ => rfl) fun w hh => c_impl_MirrorMachine _ w (fun _ hk => hk.elim) _ _ (GMachine.rdmk (Rd.mk_int _ _ _) (Rd.mk_int _ _ _) (hh.rd0 2 rfl)) _ hr10) (fun x11 => ?_)
    refine JL_q (wants_none rfl) rfl (ex_move rfl) ?_
    refine JL_q (wants_none rfl) rfl (ex_extract rfl rfl) ?_
    refine JL_q (wants_none rfl) rfl (ex_extract rfl rfl) ?_
    refine JL_st (wants_none rfl) rfl (st_alloc zi_26 rfl) (fun b12 => ?_)
    refine JL_sk (wants_none rfl) (sk_store_bx' 0 ti_26 rfl rfl (fun w hh => (cv_aggs ⟨cv_int, cv_int, (hh.cv_ow 1 rfl), trivial⟩)) rfl rfl rfl rfl) ?_
    refine JL_q (wants_none rfl) rfl (ex_assign rfl) ?_
    refine JL_nil ?_
    refine N_then ?_
    refine J_seq ?_
    refine J_region ?_
    refine JL_q (wants_none rfl) rfl (ex_load_bx_agg 3 ti_26 rfl rfl rfl rfl) ?_
    refine JL_q (wants_none rfl) rfl (ex_load_bx_agg 2 ti_29 rfl rfl rfl rfl) ?_
    refine JL_bnd fun r13 hr14 => ?_
    refine JL_call (wants_none rfl) rfl Try.call9 rfl (Ca_self (fun _ => rfl) fun w hh => c_impl_MirrorConfig _ w (fun _ hk => hk.elim) _ _ (GMachine.rdmk (Rd.mk_int _ _ _) (Rd.mk_int _ _ _) (hh.rd0 4 rfl)) _ _ (GConfig.rdmk (Rd.mk_int _ _ _) (hh.ow0 6 rfl) (hh.ow0 7 rfl)) _ hr14) (fun x15 => ?_)
    obtain ⟨x15_0, x15_1, x15_2⟩ := x15
    refine JL_ctx (fun w hh => hh.tkn_rd 1 rfl) ?_
    refine JL_q (wants_none rfl) rfl (ex_move rfl) ?_
    refine JL_q (wants_none rfl) rfl (ex_extract rfl rfl) ?_
    refine JL_q (wants_none rfl) rfl (ex_extract rfl rfl) ?_
    refine JL_st (wants_none rfl) rfl (st_alloc zi_29 rfl) (fun b16 => ?_)
    refine JL_sk (wants_none rfl) (sk_store_bx' 0 ti_29 rfl rfl (fun w hh => (cv_aggs ⟨cv_int, (hh.cv_ow 2 rfl), (hh.cv 1 rfl), trivial⟩)) rfl rfl rfl rfl) ?_
    refine JL_q (wants_none rfl) rfl (ex_assign rfl) ?_
    refine JL_nil ?_
    refine N_then ?_
    refine J_seq ?_
    refine J_cut' (S' := Unit) (G' := Unit) (fun _ _ => [(5, .pointer (some ⟨b7, 0, none⟩)), (6, .pointer (some ⟨b8, 0, none⟩)), (7, .pointer (some ⟨b12, 0, none⟩)), (9, .pointer (some ⟨b16, 0, none⟩)), (10, .int .i64 r13.2)]) (fun _ _ => [.rd x6_0 r4.1.Rules, .tkn x6_0 r4.1.Rules x6_1, .bx b7 26 [.int .i64 r4.1.Symbols, .int .i64 r4.1.States, x6_0], .ow 2 x6_2 r4.2.Left, .ow 2 x6_3 r4.2.Right, .bx b8 29 [.int .i64 r4.2.State, x6_2, x6_3], .ow 88 x11 r9.1.Rules, .bx b12 26 [.int .i64 r9.1.Symbols, .int .i64 r9.1.States, x11], .ow 2 x15_0 r13.1.Left, .rd x15_1 r13.1.Right, .tkn x15_1 r13.1.Right x15_2, .bx b16 29 [.int .i64 r13.1.State, x15_0, x15_1]]) ?_ (fun s17 g18 => ?_)
    · refine J_seq ?_
      refine J_region ?_
      refine JL_q (wants_none rfl) rfl (ex_move rfl) ?_
      refine JL_q (wants_none rfl) rfl (ex_neq rfl rfl) ?_
      refine JL_q (wants_none rfl) rfl (ex_move rfl) ?_
      refine JL_cond (fun h19 => ?_) (fun h19 => ?_)
      · refine JL_passed rfl rfl rfl h19 ?_
        refine JL_passed rfl rfl rfl h19 ?_
        refine JL_passed rfl rfl rfl h19 ?_
        refine JL_q (wants_none rfl) rfl (ex_pick_true rfl h19 rfl) ?_
        refine JL_nil ?_
        refine N_then ?_
        refine J_if_true rfl rfl ?_
        refine J_seq ?_
        refine J_region ?_
        refine JL_q (wants_none rfl) rfl (ex_assign rfl) ?_
        refine JL_nil ?_
        refine N_then ?_
        refine J_ret ?_
        refine N_mid_ret ?_
        refine N_then_ret ?_
        exact N_ret1 rfl (rv_tmp rfl) (fun w hh => ⟨(), rfl, hh.sel [] rfl⟩)
      · refine JL_q (wants_some rfl rfl rfl h19) rfl (ex_load_bx_agg 4 ti_26 rfl rfl rfl rfl) ?_
        refine JL_bnd fun r20 hr21 => ?_
        refine JL_call (wants_some rfl rfl rfl h19) rfl Try.call10 rfl (Ca_of0 fun w hh => c_impl_ValidMachine _ w (fun _ hk => hk.elim) _ _ (GMachine.rdmk (Rd.mk_int _ _ _) (Rd.mk_int _ _ _) (hh.ow0 5 rfl)) _ hr21) (fun _ => ?_)
        refine JL_q (wants_some rfl rfl rfl h19) rfl (ex_not rfl) ?_
        refine JL_q (wants_none rfl) rfl (ex_pick_false rfl h19 rfl) ?_
        refine JL_nil ?_
        refine N_then ?_
        refine J_if rfl (fun h22 => ?_) (fun h22 => ?_)
        · refine J_seq ?_
          refine J_region ?_
          refine JL_q (wants_none rfl) rfl (ex_assign rfl) ?_
          refine JL_nil ?_
          refine N_then ?_
          refine J_ret ?_
          refine N_mid_ret ?_
          refine N_then_ret ?_
          exact N_ret1 rfl (rv_tmp rfl) (fun w hh => ⟨(), rfl, hh.sel [] rfl⟩)
        · refine J_skip ?_
          exact N_meet' () ⟨rfl, rfl, rfl, rfl, rfl, trivial⟩ [8, 9, 7, 10, 11, 6, 5, 4, 2, 1, 3, 0] rfl rfl
    · refine N_then ?_
      refine J_seq ?_
      refine J_seq ?_
      refine J_region ?_
      refine JL_q (wants_none rfl) rfl (ex_move rfl) ?_
      refine JL_q (wants_none rfl) rfl (ex_eql rfl rfl) ?_
      refine JL_nil ?_
      refine N_then ?_
      refine J_if rfl (fun h23 => ?_) (fun h23 => ?_)
      · refine J_seq ?_
        refine J_region ?_
        refine JL_q (wants_none rfl) rfl (ex_assign rfl) ?_
        refine JL_nil ?_
        refine N_then ?_
        refine J_ret ?_
        refine N_then_ret ?_
        exact N_ret1 rfl (rv_tmp rfl) (fun w hh => ⟨(), rfl, hh.sel [] rfl⟩)
      · refine J_skip ?_
        refine N_then ?_
        refine J_seq ?_
        refine J_region ?_
        refine JL_q (wants_none rfl) rfl (ex_load_bx_agg 2 ti_26 rfl rfl rfl rfl) ?_
        refine JL_q (wants_none rfl) rfl (ex_load_bx_agg 5 ti_29 rfl rfl rfl rfl) ?_
        refine JL_bnd fun r24 hr25 => ?_
        refine JL_call (wants_none rfl) rfl Try.call11 rfl (Ca_self (fun _ => rfl) fun w hh => c_impl_StepMachine _ w (fun _ hk => hk.elim) _ _ (GMachine.rdmk (Rd.mk_int _ _ _) (Rd.mk_int _ _ _) (hh.rd0 0 rfl)) _ _ (GConfig.rdmk (Rd.mk_int _ _ _) (hh.ow0 3 rfl) (hh.ow0 4 rfl)) _ hr25) (fun x26 => ?_)
        obtain ⟨x26_0, x26_1⟩ := x26
        refine JL_q (wants_none rfl) rfl (ex_move rfl) ?_
        refine JL_q (wants_none rfl) rfl (ex_extract rfl rfl) ?_
        refine JL_q (wants_none rfl) rfl (ex_extract rfl rfl) ?_
        refine JL_st (wants_none rfl) rfl (st_alloc zi_29 rfl) (fun b27 => ?_)
        refine JL_sk (wants_none rfl) (sk_store_bx' 0 ti_29 rfl rfl (fun w hh => (cv_aggs ⟨cv_int, (hh.cv_ow 1 rfl), (hh.cv_ow 2 rfl), trivial⟩)) rfl rfl rfl rfl) ?_
        refine JL_q (wants_none rfl) rfl (ex_assign rfl) ?_
        refine JL_nil ?_
        refine N_then ?_
        refine J_seq ?_
        refine J_region ?_
        refine JL_q (wants_none rfl) rfl (ex_load_bx_agg 10 ti_26 rfl rfl rfl rfl) ?_
        refine JL_q (wants_none rfl) rfl (ex_load_bx_agg 14 ti_29 rfl rfl rfl rfl) ?_
        refine JL_bnd fun r28 hr29 => ?_
        refine JL_call (wants_none rfl) rfl Try.call11 rfl (Ca_self (fun _ => rfl) fun w hh => c_impl_StepMachine _ w (fun _ hk => hk.elim) _ _ (GMachine.rdmk (Rd.mk_int _ _ _) (Rd.mk_int _ _ _) (hh.ow0 9 rfl)) _ _ (GConfig.rdmk (Rd.mk_int _ _ _) (hh.ow0 11 rfl) (hh.rd0 12 rfl)) _ hr29) (fun x30 => ?_)
        obtain ⟨x30_0, x30_1⟩ := x30
        refine JL_q (wants_none rfl) rfl (ex_move rfl) ?_
        refine JL_q (wants_none rfl) rfl (ex_extract rfl rfl) ?_
        refine JL_q (wants_none rfl) rfl (ex_extract rfl rfl) ?_
        refine JL_st (wants_none rfl) rfl (st_alloc zi_29 rfl) (fun b31 => ?_)
        refine JL_sk (wants_none rfl) (sk_store_bx' 0 ti_29 rfl rfl (fun w hh => (cv_aggs ⟨cv_int, (hh.cv_ow 1 rfl), (hh.cv_ow 2 rfl), trivial⟩)) rfl rfl rfl rfl) ?_
        refine JL_q (wants_none rfl) rfl (ex_assign rfl) ?_
        refine JL_nil ?_
        refine N_then ?_
        refine J_seq ?_
        refine J_seq ?_
        refine J_region ?_
        refine JL_q (wants_none rfl) rfl (ex_move rfl) ?_
        refine JL_q (wants_none rfl) rfl (ex_neq rfl rfl) ?_
        refine JL_nil ?_
        refine N_then ?_
        refine J_if rfl (fun h32 => ?_) (fun h32 => ?_)
        · refine J_seq ?_
          refine J_region ?_
          refine JL_q (wants_none rfl) rfl (ex_assign rfl) ?_
          refine JL_nil ?_
          refine N_then ?_
          refine J_ret ?_
          refine N_then_ret ?_
          exact N_ret1 rfl (rv_tmp rfl) (fun w hh => ⟨(), rfl, hh.sel [] rfl⟩)
        · refine J_skip ?_
          refine N_then ?_
          refine J_seq ?_
          refine J_cut' (S' := Unit) (G' := Unit) (fun _ _ => [(5, .pointer (some ⟨b7, 0, none⟩)), (11, .pointer (some ⟨b27, 0, none⟩)), (12, .int .i64 r24.2), (13, .pointer (some ⟨b31, 0, none⟩)), (14, .int .i64 r28.2)]) (fun _ _ => [.rd x6_0 r4.1.Rules, .tkn x6_0 r4.1.Rules x6_1, .bx b7 26 [.int .i64 r4.1.Symbols, .int .i64 r4.1.States, x6_0], .ow 2 x26_0 r24.1.Left, .ow 2 x26_1 r24.1.Right, .bx b27 29 [.int .i64 r24.1.State, x26_0, x26_1], .ow 2 x30_0 r28.1.Left, .ow 2 x30_1 r28.1.Right, .bx b31 29 [.int .i64 r28.1.State, x30_0, x30_1]]) ?_ (fun s33 g34 => ?_)
          · refine J_seq ?_
            refine J_region ?_
            refine JL_q (wants_none rfl) rfl (ex_move rfl) ?_
            refine JL_q (wants_none rfl) rfl (ex_eql rfl rfl) ?_
            refine JL_q (wants_none rfl) rfl (ex_move rfl) ?_
            refine JL_cond (fun h35 => ?_) (fun h35 => ?_)
            · refine JL_passed rfl rfl rfl h35 ?_
              refine JL_passed rfl rfl rfl h35 ?_
              refine JL_q (wants_none rfl) rfl (ex_pick_true rfl h35 rfl) ?_
              refine JL_nil ?_
              refine N_then ?_
              refine J_if_true rfl rfl ?_
              refine J_seq ?_
              refine J_region ?_
              refine JL_q (wants_none rfl) rfl (ex_assign rfl) ?_
              refine JL_nil ?_
              refine N_then ?_
              refine J_ret ?_
              refine N_mid_ret ?_
              refine N_then_ret ?_
              exact N_ret1 rfl (rv_tmp rfl) (fun w hh => ⟨(), rfl, hh.sel [] rfl⟩)
            · refine JL_q (wants_some rfl rfl rfl h35) rfl (ex_move rfl) ?_
              refine JL_q (wants_some rfl rfl rfl h35) rfl (ex_eql rfl rfl) ?_
              refine JL_q (wants_none rfl) rfl (ex_pick_false rfl h35 rfl) ?_
              refine JL_nil ?_
              refine N_then ?_
              refine J_if rfl (fun h36 => ?_) (fun h36 => ?_)
              · refine J_seq ?_
                refine J_region ?_
                refine JL_q (wants_none rfl) rfl (ex_assign rfl) ?_
                refine JL_nil ?_
                refine N_then ?_
                refine J_ret ?_
                refine N_mid_ret ?_
                refine N_then_ret ?_
                exact N_ret1 rfl (rv_tmp rfl) (fun w hh => ⟨(), rfl, hh.sel [] rfl⟩)
              · refine J_skip ?_
                exact N_meet' () ⟨rfl, rfl, rfl, rfl, rfl, trivial⟩ [6, 7, 8, 4, 5, 3, 1, 2, 0] rfl rfl
          · refine N_then ?_
            refine J_seq ?_
            refine J_seq ?_
            refine J_region ?_
            refine JL_q (wants_none rfl) rfl (ex_move rfl) ?_
            refine JL_q (wants_none rfl) rfl (ex_move rfl) ?_
            refine JL_q (wants_none rfl) rfl (ex_neq rfl rfl) ?_
            refine JL_nil ?_
            refine N_then ?_
            refine J_if rfl (fun h37 => ?_) (fun h37 => ?_)
            · refine J_seq ?_
              refine J_region ?_
              refine JL_q (wants_none rfl) rfl (ex_assign rfl) ?_
              refine JL_nil ?_
              refine N_then ?_
              refine J_ret ?_
              refine N_then_ret ?_
              exact N_ret1 rfl (rv_tmp rfl) (fun w hh => ⟨(), rfl, hh.sel [] rfl⟩)
            · refine J_skip ?_
              refine N_then ?_
              refine J_seq ?_
              refine J_seq ?_
              refine J_region ?_
              refine JL_q (wants_none rfl) rfl (ex_move rfl) ?_
              refine JL_q (wants_none rfl) rfl (ex_neq rfl rfl) ?_
              refine JL_nil ?_
              refine N_then ?_
              refine J_if rfl (fun h38 => ?_) (fun h38 => ?_)
              · refine J_seq ?_
                refine J_region ?_
                refine JL_q (wants_none rfl) rfl (ex_move rfl) ?_
                refine JL_q (wants_none rfl) rfl (ex_eql rfl rfl) ?_
                refine JL_q (wants_none rfl) rfl (ex_assign rfl) ?_
                refine JL_nil ?_
                refine N_then ?_
                refine J_ret ?_
                refine N_then_ret ?_
                exact N_ret1 rfl (rv_tmp rfl) (fun w hh => ⟨(), rfl, hh.sel [] rfl⟩)
              · refine J_skip ?_
                refine N_then ?_
                refine J_seq ?_
                refine J_region ?_
                refine JL_q (wants_none rfl) rfl (ex_load_bx_agg 2 ti_26 rfl rfl rfl rfl) ?_
                refine JL_q (wants_none rfl) rfl (ex_load_bx_agg 5 ti_29 rfl rfl rfl rfl) ?_
                refine JL_bnd fun r39 hr40 => ?_
                refine JL_call (wants_none rfl) rfl Try.call9 rfl (Ca_self (fun _ => rfl) fun w hh => c_impl_MirrorConfig _ w (fun _ hk => hk.elim) _ _ (GMachine.rdmk (Rd.mk_int _ _ _) (Rd.mk_int _ _ _) (hh.rd0 0 rfl)) _ _ (GConfig.rdmk (Rd.mk_int _ _ _) (hh.ow0 3 rfl) (hh.ow0 4 rfl)) _ hr40) (fun x41 => ?_)
                obtain ⟨x41_0, x41_1, x41_2⟩ := x41
                refine JL_ctx (fun w hh => hh.tkn_rd 1 rfl) ?_
                refine JL_q (wants_none rfl) rfl (ex_move rfl) ?_
                refine JL_q (wants_none rfl) rfl (ex_extract rfl rfl) ?_
                refine JL_q (wants_none rfl) rfl (ex_extract rfl rfl) ?_
                refine JL_st (wants_none rfl) rfl (st_alloc zi_29 rfl) (fun b42 => ?_)
                refine JL_sk (wants_none rfl) (sk_store_bx' 0 ti_29 rfl rfl (fun w hh => (cv_aggs ⟨cv_int, (hh.cv_ow 2 rfl), (hh.cv 1 rfl), trivial⟩)) rfl rfl rfl rfl) ?_
                refine JL_q (wants_none rfl) rfl (ex_assign rfl) ?_
                refine JL_nil ?_
                refine N_then ?_
                refine J_seq ?_
                refine J_region ?_
                refine JL_q (wants_none rfl) rfl (ex_move rfl) ?_
                refine JL_q (wants_none rfl) rfl (ex_eql rfl rfl) ?_
                refine JL_q (wants_none rfl) rfl (ex_move rfl) ?_
                refine JL_cond (fun h43 => ?_) (fun h43 => ?_)
                · refine JL_passed rfl rfl rfl h43 ?_
                  refine JL_passed rfl rfl rfl h43 ?_
                  refine JL_passed rfl rfl rfl h43 ?_
                  refine JL_passed_undef rfl rfl rfl ?_
                  refine JL_passed_undef rfl rfl rfl ?_
                  refine JL_passed_undef rfl rfl rfl ?_
                  refine JL_passed rfl rfl rfl h43 ?_
                  refine JL_q (wants_none rfl) rfl (ex_pick_true rfl h43 rfl) ?_
                  refine JL_q (wants_none rfl) rfl (ex_assign rfl) ?_
                  refine JL_nil ?_
                  refine N_then ?_
                  refine J_ret ?_
                  exact N_ret1 rfl (rv_tmp rfl) (fun w hh => ⟨(), rfl, hh.sel [] rfl⟩)
                · refine JL_q (wants_some rfl rfl rfl h43) rfl (ex_move rfl) ?_
                  refine JL_q (wants_some rfl rfl rfl h43) rfl (ex_eql rfl rfl) ?_
                  refine JL_q (wants_some rfl rfl rfl h43) rfl (ex_move rfl) ?_
                  refine JL_cond (fun h44 => ?_) (fun h44 => ?_)
                  · refine JL_q (wants_some rfl rfl rfl h44) rfl (ex_load_bx_agg 0 ti_29 rfl rfl rfl rfl) ?_
                    refine JL_q (wants_some rfl rfl rfl h44) rfl (ex_load_bx_agg 12 ti_29 rfl rfl rfl rfl) ?_
                    refine JL_bnd fun r45 hr46 => ?_
                    refine JL_call (wants_some rfl rfl rfl h44) rfl Try.call12 rfl (Ca_of0 fun w hh => c_laws_r8Config _ w (fun _ hk => hk.elim) _ _ (GConfig.rdmk (Rd.mk_int _ _ _) (hh.ow0 2 rfl) (hh.rd0 1 rfl)) _ _ (GConfig.rdmk (Rd.mk_int _ _ _) (hh.ow0 10 rfl) (hh.ow0 11 rfl)) _ hr46) (fun _ => ?_)
                    refine JL_q (wants_some rfl rfl rfl h43) rfl (ex_pick_true rfl h44 rfl) ?_
                    refine JL_q (wants_none rfl) rfl (ex_pick_false rfl h43 rfl) ?_
                    refine JL_q (wants_none rfl) rfl (ex_assign rfl) ?_
                    refine JL_nil ?_
                    refine N_then ?_
                    refine J_ret ?_
                    exact N_ret1 rfl (rv_tmp rfl) (fun w hh => ⟨(), rfl, hh.sel [] rfl⟩)
                  · refine JL_passed rfl rfl rfl h44 ?_
                    refine JL_passed rfl rfl rfl h44 ?_
                    refine JL_passed rfl rfl rfl h44 ?_
                    refine JL_q (wants_some rfl rfl rfl h43) rfl (ex_pick_false rfl h44 rfl) ?_
                    refine JL_q (wants_none rfl) rfl (ex_pick_false rfl h43 rfl) ?_
                    refine JL_q (wants_none rfl) rfl (ex_assign rfl) ?_
                    refine JL_nil ?_
                    refine N_then ?_
                    refine J_ret ?_
                    exact N_ret1 rfl (rv_tmp rfl) (fun w hh => ⟨(), rfl, hh.sel [] rfl⟩)

end Go.Proofs.Ytgojoooilijiiaa
