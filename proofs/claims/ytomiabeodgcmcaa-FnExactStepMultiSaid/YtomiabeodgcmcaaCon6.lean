/-
  Each function of the program computes what its plain function says: printed by program. No condition.
-/
import Derived.Test.YtomiabeodgcmcaaFn
import Derived.Test.YtomiabeodgcmcaaInf
import Derived.Test.YtomiabeodgcmcaaCon1
import Derived.Test.YtomiabeodgcmcaaCon2
import Derived.Test.YtomiabeodgcmcaaCon3
import Derived.Test.YtomiabeodgcmcaaCon4
namespace Go.Proofs.Ytomiabeodgcmcaa
open Go Go.Tc Go.Fn
set_option linter.unusedVariables false

set_option maxHeartbeats 40000000 in
theorem c_spec_StepMulti (A : Nat → Prop) (w : World) (hA : ∀ k, A k → k < w.heap.size) (v0_ : Value) (p0 : GMulti) (hp0 : Rd A w v0_ p0) (v1_ : Value) (p1 : GMultiConfig) (hp1 : Rd A w v1_ p1) (r : GMultiConfig × Int) (hr : F_spec_StepMulti p0 p1 = some r) :
    Con Try.prog 8 [v0_, v1_] A w (fun x_ : Value × List Nat => .tuple #[.agg #[.int .i64 r.1.State, x_.1], .int .i64 r.2]) (fun x_ => [.od 91 x_.1 r.1.Tapes x_.2]) := by
  obtain ⟨v0_0, rfl, hp0_0⟩ := GMulti.open hp0
  obtain ⟨v1_0, rfl, hp1_0⟩ := GMultiConfig.open hp1
  refine Con_of (v := fun (r : GMultiConfig × Int) (x_ : Value × List Nat) => .tuple #[.agg #[.int .i64 r.1.State, x_.1], .int .i64 r.2]) (fs := fun r x_ => [.od 91 x_.1 r.1.Tapes x_.2]) Try.func8 rfl Try.ntmps8 rfl (((SH.start hA).start_rd rfl hp0_0).start_rd rfl hp1_0) rfl ?_ hr
  unfold F_spec_StepMulti
  refine J_seq ?_
  refine J_region ?_
  refine JL_st (wants_none rfl) rfl (st_box' rfl (fun w hh => (cv_aggs ⟨cv_int, cv_int, cv_int, (hh.cv 1 rfl), trivial⟩))) (fun b1 => ?_)
  refine JL_st (wants_none rfl) rfl (st_box' rfl (fun w hh => (cv_aggs ⟨cv_int, (hh.cv 1 rfl), trivial⟩))) (fun b2 => ?_)
  refine JL_st (wants_none rfl) rfl (st_alloc zi_32 rfl) (fun b3 => ?_)
  refine JL_q (wants_none rfl) rfl (ex_assign rfl) ?_
  refine JL_nil ?_
  refine N_then ?_
  refine J_seq ?_
  refine J_seq ?_
  refine J_region ?_
  refine JL_bnd fun r4 hr5 => ?_
  refine JL_call (wants_none rfl) rfl Try.call26 rfl (Ca_of0 fun w hh => c_spec_l06Is _ w (fun _ hk => hk.elim) _ _ (hh.bx_pa 2 rfl (GMulti.rdmk (Rd.mk_int _ _ _) (Rd.mk_int _ _ _) (Rd.mk_int _ _ _) (hh.rd0 4 rfl)) rfl) _ hr5) (fun _ => ?_)
  refine JL_q (wants_none rfl) rfl (ex_not rfl) ?_
  refine JL_q (wants_none rfl) rfl (ex_move rfl) ?_
  refine JL_cond (fun h6 => ?_) (fun h6 => ?_)
  · refine JL_passed rfl rfl rfl h6 ?_
    refine JL_passed rfl rfl rfl h6 ?_
    refine JL_q (wants_none rfl) rfl (ex_pick_true rfl h6 rfl) ?_
    refine JL_nil ?_
    refine N_then ?_
    refine J_if_true rfl rfl ?_
    refine J_seq ?_
    refine J_region ?_
    refine JL_q (wants_none rfl) rfl (ex_build si_32 rfl .nil (fun w hh => trivial)) ?_
    refine JL_sk (wants_none rfl) (sk_store_bx' 0 ti_32 rfl rfl (fun w hh => (cv_aggs ⟨cv_int, cv_slice, trivial⟩)) rfl rfl rfl rfl) ?_
    refine JL_q (wants_none rfl) rfl (ex_assign rfl) ?_
    refine JL_nil ?_
    refine N_then ?_
    refine J_ret ?_
    refine N_then_ret ?_
    refine N_ctx (fun w hh => SH.od_nil (α := GTape) 91 hh) ?_
    exact N_ret2 rfl (rv_cell 1 rfl rfl ti_32 rfl) (rv_tmp rfl) (fun w hh => ⟨((.slice none 0 0 : Value), ([] : List Nat)), rfl, hh.sel [0] rfl⟩)
  · refine JL_bnd fun r7 hr8 => ?_
    refine JL_call (wants_some rfl rfl rfl h6) rfl Try.call27 rfl (Ca_of0 fun w hh => c_spec_l06Good _ w (fun _ hk => hk.elim) _ _ (hh.bx_pa 2 rfl (GMulti.rdmk (Rd.mk_int _ _ _) (Rd.mk_int _ _ _) (Rd.mk_int _ _ _) (hh.rd0 4 rfl)) rfl) _ _ (hh.bx_pa 1 rfl (GMultiConfig.rdmk (Rd.mk_int _ _ _) (hh.rd0 3 rfl)) rfl) _ hr8) (fun _ => ?_)
    refine JL_q (wants_some rfl rfl rfl h6) rfl (ex_not rfl) ?_
    refine JL_q (wants_none rfl) rfl (ex_pick_false rfl h6 rfl) ?_
    refine JL_nil ?_
    refine N_then ?_
    refine J_if rfl (fun h9 => ?_) (fun h9 => ?_)
    · refine J_seq ?_
      refine J_region ?_
      refine JL_q (wants_none rfl) rfl (ex_build si_32 rfl .nil (fun w hh => trivial)) ?_
      refine JL_sk (wants_none rfl) (sk_store_bx' 0 ti_32 rfl rfl (fun w hh => (cv_aggs ⟨cv_int, cv_slice, trivial⟩)) rfl rfl rfl rfl) ?_
      refine JL_q (wants_none rfl) rfl (ex_assign rfl) ?_
      refine JL_nil ?_
      refine N_then ?_
      refine J_ret ?_
      refine N_then_ret ?_
      refine N_ctx (fun w hh => SH.od_nil (α := GTape) 91 hh) ?_
      exact N_ret2 rfl (rv_cell 1 rfl rfl ti_32 rfl) (rv_tmp rfl) (fun w hh => ⟨((.slice none 0 0 : Value), ([] : List Nat)), rfl, hh.sel [0] rfl⟩)
    · refine J_skip ?_
      refine N_then ?_
      refine J_seq ?_
      refine J_region ?_
      refine JL_bnd fun r10 hr11 => ?_
      refine JL_call (wants_none rfl) rfl Try.call28 rfl (Ca_self (fun _ => rfl) fun w hh => c_spec_l06Step _ w (fun _ hk => hk.elim) _ _ (hh.bx_pa 2 rfl (GMulti.rdmk (Rd.mk_int _ _ _) (Rd.mk_int _ _ _) (Rd.mk_int _ _ _) (hh.rd0 4 rfl)) rfl) _ _ (hh.bx_pa 1 rfl (GMultiConfig.rdmk (Rd.mk_int _ _ _) (hh.rd0 3 rfl)) rfl) _ hr11) (fun x12 => ?_)
      obtain ⟨x12_0, x12_1⟩ := x12
      refine JL_q (wants_none rfl) rfl (ex_extract rfl rfl) ?_
      refine JL_q (wants_none rfl) rfl (ex_extract rfl rfl) ?_
      refine JL_sk (wants_none rfl) (sk_store_bx' 1 ti_32 rfl rfl (fun w hh => (cv_aggs ⟨cv_int, (hh.cv_od 0 rfl), trivial⟩)) rfl rfl rfl rfl) ?_
      refine JL_q (wants_none rfl) rfl (ex_assign rfl) ?_
      refine JL_nil ?_
      refine N_then ?_
      refine J_ret ?_
      exact N_ret2 rfl (rv_cell 1 rfl rfl ti_32 rfl) (rv_tmp rfl) (fun w hh => ⟨(x12_0, x12_1), rfl, hh.sel [0] rfl⟩)

set_option maxHeartbeats 40000000 in
theorem c_impl_MultiRuleAt (A : Nat → Prop) (w : World) (hA : ∀ k, A k → k < w.heap.size) (v0_ : Value) (p0 : GMulti) (hp0 : Rd A w v0_ p0) (v1_ : Value) (p1 : GMultiConfig) (hp1 : Rd A w v1_ p1) (r : Int × Int) (hr : F_impl_MultiRuleAt p0 p1 = some r) :
    Con Try.prog 31 [v0_, v1_] A w (fun x_ : Unit => .tuple #[.int .i64 r.1, .int .i64 r.2]) (fun x_ => []) := by
  obtain ⟨v0_0, rfl, hp0_0⟩ := GMulti.open hp0
  obtain ⟨v1_0, rfl, hp1_0⟩ := GMultiConfig.open hp1
  refine Con_of (v := fun (r : Int × Int) (x_ : Unit) => .tuple #[.int .i64 r.1, .int .i64 r.2]) (fs := fun r x_ => []) Try.func31 rfl Try.ntmps31 rfl (((SH.start hA).start_rd rfl hp0_0).start_rd rfl hp1_0) rfl ?_ hr
  unfold F_impl_MultiRuleAt
  refine J_seq ?_
  refine J_region ?_
  refine JL_st (wants_none rfl) rfl (st_box' rfl (fun w hh => (cv_aggs ⟨cv_int, cv_int, cv_int, (hh.cv 1 rfl), trivial⟩))) (fun b1 => ?_)
  refine JL_st (wants_none rfl) rfl (st_box' rfl (fun w hh => (cv_aggs ⟨cv_int, (hh.cv 1 rfl), trivial⟩))) (fun b2 => ?_)
  refine JL_q (wants_none rfl) rfl (ex_assign rfl) ?_
  refine JL_q (wants_none rfl) rfl (ex_assign rfl) ?_
  refine JL_nil ?_
  refine N_then ?_
  refine J_seq ?_
  refine J_seq ?_
  refine J_region ?_
  refine JL_q (wants_none rfl) rfl (ex_load_bx_agg 1 ti_37 rfl rfl rfl rfl) ?_
  refine JL_q (wants_none rfl) rfl (ex_load_bx_agg 0 ti_32 rfl rfl rfl rfl) ?_
  refine JL_bnd fun r3 hr4 => ?_
  refine JL_call (wants_none rfl) rfl Try.call41 rfl (Ca_of0 fun w hh => c_impl_ValidMultiConfig _ w (fun _ hk => hk.elim) _ _ (GMulti.rdmk (Rd.mk_int _ _ _) (Rd.mk_int _ _ _) (Rd.mk_int _ _ _) (hh.rd0 3 rfl)) _ _ (GMultiConfig.rdmk (Rd.mk_int _ _ _) (hh.rd0 2 rfl)) _ hr4) (fun _ => ?_)
  refine JL_q (wants_none rfl) rfl (ex_not rfl) ?_
  refine JL_nil ?_
  refine N_then ?_
  refine J_if rfl (fun h5 => ?_) (fun h5 => ?_)
  · refine J_seq ?_
    refine J_region ?_
    refine JL_q (wants_none rfl) rfl (ex_assign rfl) ?_
    refine JL_q (wants_none rfl) rfl (ex_assign rfl) ?_
    refine JL_nil ?_
    refine N_then ?_
    refine J_ret ?_
    refine N_then_ret ?_
    exact N_ret2 rfl (rv_tmp rfl) (rv_tmp rfl) (fun w hh => ⟨(), rfl, hh.sel [] rfl⟩)
  · refine J_skip ?_
    refine N_then ?_
    refine J_seq ?_
    refine J_region ?_
    refine JL_q (wants_none rfl) rfl (ex_load_bx_agg 1 ti_37 rfl rfl rfl rfl) ?_
    refine JL_inline (wants_none rfl) rfl Try.call57 rfl Try.func57 rfl Try.ntmps57 rfl rfl (fun K_ hK6 => ?_)
    refine J_seq ?_
    refine J_region ?_
    refine JL_st (wants_none rfl) rfl (st_box' rfl (fun w hh => (cv_aggs ⟨cv_int, cv_int, cv_int, (hh.cv 3 rfl), trivial⟩))) (fun b7 => ?_)
    refine JL_q (wants_none rfl) rfl (ex_assign rfl) ?_
    refine JL_nil ?_
    refine N_then ?_
    refine J_seq ?_
    refine J_region ?_
    refine JL_st (wants_none rfl) rfl (st_makeMap (κ := Greading) (ν := Int) (enc := Greading.enc) (venc := (Value.int .i64))) (fun b8 => ?_)
    refine JL_q (wants_none rfl) rfl (ex_assign rfl) ?_
    refine JL_nil ?_
    refine N_then ?_
    refine J_seq ?_
    refine J_seq ?_
    refine J_region ?_
    refine JL_q (wants_none rfl) rfl (ex_fieldAddr fi_37_3 rfl rfl) ?_
    refine JL_q (wants_none rfl) rfl (ex_load_bx 1 ti_35 rfl rfl rfl) ?_
    refine JL_q (wants_none rfl) rfl (ex_len_rd 5 Try.underlying35 rfl rfl) ?_
    refine JL_q (wants_none rfl) rfl (ex_move rfl) ?_
    refine JL_nil ?_
    refine N_then ?_
    refine J_loop' (S := List (Greading × Int) × Int) (G := Unit) (F_impl_MultiRuleAt_L1 p0) (fun s9 _ => [(3, .map (some b8)), (9, v0_0), (10, .int .i64 (p0.Rules.length : Int)), (11, .int .i64 s9.2)]) (fun s9 _ => [mpf Greading.enc (Value.int .i64) b8 s9.1, .rd v0_0 p0.Rules, .rd v1_0 p1.Tapes, .bx b2 32 [.int .i64 p1.State, v1_0]]) (([] : List (Greading × Int)), 0) () ⟨rfl, rfl, rfl, rfl, trivial⟩ [0, 5, 4, 2] rfl rfl (fun s9 g10 => ?_) (fun s9 g10 => ?_)
    · unfold F_impl_MultiRuleAt_L1
      refine J_seq ?_
      refine J_region ?_
      refine JL_q (wants_none rfl) rfl (ex_lss rfl rfl) ?_
      refine JL_nil ?_
      refine N_then ?_
      refine J_seq ?_
      refine J_if rfl (fun h11 => ?_) (fun h11 => ?_)
      · refine J_skip ?_
        refine N_then ?_
        refine J_seq ?_
        refine J_block ?_
        refine J_seq ?_
        refine J_region ?_
        refine JL_q (wants_none rfl) rfl (ex_move rfl) ?_
        refine JL_bnd fun y12 hy13 => ?_
        refine JL_st (wants_none rfl) rfl (st_index 1 Try.underlying35 ti_68 rfl rfl rfl hy13) (fun q14 => ?_)
        refine JL_st (wants_none rfl) rfl (st_load_pt_o 0 (GMultiRule.opens _) ti_68 rfl rfl) (fun v15 => ?_)
        refine JL_st (wants_none rfl) rfl (st_alloc zi_68 rfl) (fun b16 => ?_)
        refine JL_q (wants_none rfl) rfl (ex_assign rfl) ?_
        refine JL_sk (wants_none rfl) (sk_store_bx' 0 ti_68 rfl rfl (fun w hh => (cv_aggs ⟨cv_int, (hh.cv 1 rfl), (hh.cv 2 rfl), (hh.cv 3 rfl), cv_int, trivial⟩)) rfl rfl rfl rfl) ?_
        refine JL_nil ?_
        refine N_then ?_
        refine J_seq ?_
        refine J_region ?_
        refine JL_q (wants_none rfl) rfl (ex_fieldAddr fi_68_0 rfl rfl) ?_
        refine JL_q (wants_none rfl) rfl (ex_load_bx 0 ti_2 rfl rfl rfl) ?_
        refine JL_q (wants_none rfl) rfl (ex_build si_101 rfl (.cons fi_101_0 rfl rfl .nil) (fun w hh => ⟨cv_int, trivial⟩)) ?_
        refine JL_st (wants_none rfl) rfl (st_alloc zi_101 rfl) (fun b17 => ?_)
        refine JL_sk (wants_none rfl) (sk_store_bx' 0 ti_101 rfl rfl (fun w hh => (cv_aggs ⟨cv_int, cv_int, cv_int, cv_int, trivial⟩)) rfl rfl rfl rfl) ?_
        refine JL_nil ?_
        refine N_then ?_
        refine J_seq ?_
        refine J_draw [0] (by kernel_rfl) ?_
        refine JP_take (i := 0) [1, 2, 3, 4, 5, 6, 7, 8, 9] [0] rfl (by kernel_rfl) (by kernel_rfl) (by kernel_rfl) rfl rfl (wants_none rfl) rfl (ex_fieldAddr fi_101_1 rfl rfl) ?_
        refine JP_take (i := 1) [1, 2, 3, 4, 5, 6, 7, 8, 9] [0] rfl (by kernel_rfl) (by kernel_rfl) (by kernel_rfl) rfl rfl (wants_none rfl) rfl (ex_slice_bx Try.underlying99 ti_2 rfl) ?_
        refine JP_take (i := 2) [1, 2, 3, 4, 5, 6, 7, 8, 9] [0] rfl (by kernel_rfl) (by kernel_rfl) (by kernel_rfl) rfl rfl (wants_none rfl) rfl (ex_fieldAddr fi_68_1 rfl rfl) ?_
        refine JP_take (i := 3) [1, 2, 3, 4, 5, 6, 7, 8, 9] [0] rfl (by kernel_rfl) (by kernel_rfl) (by kernel_rfl) rfl rfl (wants_none rfl) rfl (ex_load_bx 0 ti_66 rfl rfl rfl) ?_
        refine JP_go [1, 2, 3, 4, 5, 6, 7, 8, 9] [0] rfl rfl rfl (fun w19 h1_20 hp18 => ?_)
        refine JD_one (i := 4) (by kernel_rfl) ?_
        refine JO_st rfl (wants_none rfl) rfl (st_copy_bx [0, 0, 0] 0 Try.underlying66 ti_2 rfl rfl rfl rfl rfl rfl rfl (fun w hh => hh.src_rd 2 rfl)) (sub_bx 0 rfl) (fun _ => ?_)
        refine JD_done (by kernel_rfl) ?_
        refine N_then ?_
        refine J_region ?_
        refine JL_q (wants_none rfl) rfl (ex_move rfl) ?_
        refine JL_q (wants_none rfl) rfl (ex_load_bx_agg 0 ti_101 rfl rfl rfl rfl) ?_
        refine JL_q (wants_none rfl) rfl (ex_move rfl) ?_
        refine JL_sk (wants_none rfl) (sk_mapUpdate (x := (⟨y12.State, (y12.Read.getD 0 0), (y12.Read.getD 1 0), (y12.Read.getD 2 0)⟩ : Greading)) (y := s9.2) 6 key_101 Try.underlying97 rfl rfl rfl rfl rfl rfl rfl rfl) ?_
        refine JL_nil ?_
        refine N_block ?_
        refine N_then ?_
        refine J_region ?_
        refine JL_q (wants_none rfl) rfl (ex_add rfl rfl) ?_
        refine JL_q (wants_none rfl) rfl (ex_move rfl) ?_
        refine JL_nil ?_
        exact N_next' () ⟨rfl, rfl, rfl, rfl, trivial⟩ [6, 7, 8, 9] rfl rfl
      · refine J_exit ?_
        refine N_then_exit ?_
        exact N_break' () ⟨rfl, rfl, rfl, rfl, trivial⟩ [0, 1, 2, 3] rfl rfl
    · refine N_then ?_
      refine J_seq ?_
      refine J_region ?_
      refine JL_q (wants_none rfl) rfl (ex_move rfl) ?_
      refine JL_q (wants_none rfl) rfl (ex_assign rfl) ?_
      refine JL_nil ?_
      refine N_then ?_
      refine J_ret ?_
      refine N_inl1 hK6 rfl (rv_tmp rfl) ?_
      refine JL_bnd fun r21 hr22 => ?_
      refine JL_call (wants_none rfl) rfl Try.call58 rfl (Ca_of0 fun w hh => c_impl_MultiConfig_read _ w (fun _ hk => hk.elim) _ _ (hh.bx_pa 3 rfl (GMultiConfig.rdmk (Rd.mk_int _ _ _) (hh.rd0 2 rfl)) rfl) _ hr22) (fun _ => ?_)
      refine JL_q (wants_none rfl) rfl (ex_lookup_ok (x := r21) (z := 0) 0 key_101 Try.underlying97 zi_2 rfl rfl rfl rfl rfl) ?_
      refine JL_q (wants_none rfl) rfl (ex_move rfl) ?_
      refine JL_q (wants_none rfl) rfl (ex_extract rfl rfl) ?_
      refine JL_q (wants_none rfl) rfl (ex_extract rfl rfl) ?_
      refine JL_q (wants_none rfl) rfl (ex_assign rfl) ?_
      refine JL_q (wants_none rfl) rfl (ex_assign rfl) ?_
      refine JL_nil ?_
      refine N_then ?_
      refine J_seq ?_
      refine J_seq ?_
      refine J_region ?_
      refine JL_q (wants_none rfl) rfl (ex_move rfl) ?_
      refine JL_q (wants_none rfl) rfl (ex_not rfl) ?_
      refine JL_nil ?_
      refine N_then ?_
      refine J_if rfl (fun h23 => ?_) (fun h23 => ?_)
      · refine J_seq ?_
        refine J_region ?_
        refine JL_q (wants_none rfl) rfl (ex_assign rfl) ?_
        refine JL_q (wants_none rfl) rfl (ex_assign rfl) ?_
        refine JL_nil ?_
        refine N_then ?_
        refine J_ret ?_
        refine N_then_ret ?_
        exact N_ret2 rfl (rv_tmp rfl) (rv_tmp rfl) (fun w hh => ⟨(), rfl, hh.sel [] rfl⟩)
      · refine J_skip ?_
        refine N_then ?_
        refine J_seq ?_
        refine J_region ?_
        refine JL_q (wants_none rfl) rfl (ex_move rfl) ?_
        refine JL_q (wants_none rfl) rfl (ex_assign rfl) ?_
        refine JL_q (wants_none rfl) rfl (ex_assign rfl) ?_
        refine JL_nil ?_
        refine N_then ?_
        refine J_ret ?_
        exact N_ret2 rfl (rv_tmp rfl) (rv_tmp rfl) (fun w hh => ⟨(), rfl, hh.sel [] rfl⟩)

set_option maxHeartbeats 40000000 in
theorem c_impl_StepMulti (A : Nat → Prop) (w : World) (hA : ∀ k, A k → k < w.heap.size) (v0_ : Value) (p0 : GMulti) (hp0 : Rd A w v0_ p0) (v1_ : Value) (p1 : GMultiConfig) (hp1 : Rd A w v1_ p1) (r : GMultiConfig × Int) (hr : F_impl_StepMulti p0 p1 = some r) :
    Con Try.prog 11 [v0_, v1_] A w (fun x_ : Value × List Nat => .tuple #[.agg #[.int .i64 r.1.State, x_.1], .int .i64 r.2]) (fun x_ => [.tkn x_.1 r.1.Tapes x_.2]) := by
  obtain ⟨v0_0, rfl, hp0_0⟩ := GMulti.open hp0
  obtain ⟨v1_0, rfl, hp1_0⟩ := GMultiConfig.open hp1
  refine Con_of (v := fun (r : GMultiConfig × Int) (x_ : Value × List Nat) => .tuple #[.agg #[.int .i64 r.1.State, x_.1], .int .i64 r.2]) (fs := fun r x_ => [.tkn x_.1 r.1.Tapes x_.2]) Try.func11 rfl Try.ntmps11 rfl (((SH.start hA).start_rd rfl hp0_0).start_rd rfl hp1_0) rfl ?_ hr
  unfold F_impl_StepMulti
  refine J_seq ?_
  refine J_region ?_
  refine JL_st (wants_none rfl) rfl (st_box' rfl (fun w hh => (cv_aggs ⟨cv_int, cv_int, cv_int, (hh.cv 1 rfl), trivial⟩))) (fun b1 => ?_)
  refine JL_st (wants_none rfl) rfl (st_box' rfl (fun w hh => (cv_aggs ⟨cv_int, (hh.cv 1 rfl), trivial⟩))) (fun b2 => ?_)
  refine JL_st (wants_none rfl) rfl (st_alloc zi_32 rfl) (fun b3 => ?_)
  refine JL_q (wants_none rfl) rfl (ex_assign rfl) ?_
  refine JL_nil ?_
  refine N_then ?_
  refine J_seq ?_
  refine J_region ?_
  refine JL_q (wants_none rfl) rfl (ex_load_bx_agg 2 ti_37 rfl rfl rfl rfl) ?_
  refine JL_q (wants_none rfl) rfl (ex_load_bx_agg 1 ti_32 rfl rfl rfl rfl) ?_
  refine JL_bnd fun r4 hr5 => ?_
  refine JL_call (wants_none rfl) rfl Try.call31 rfl (Ca_of0 fun w hh => c_impl_MultiRuleAt _ w (fun _ hk => hk.elim) _ _ (GMulti.rdmk (Rd.mk_int _ _ _) (Rd.mk_int _ _ _) (Rd.mk_int _ _ _) (hh.rd0 4 rfl)) _ _ (GMultiConfig.rdmk (Rd.mk_int _ _ _) (hh.rd0 3 rfl)) _ hr5) (fun _ => ?_)
  refine JL_q (wants_none rfl) rfl (ex_move rfl) ?_
  refine JL_q (wants_none rfl) rfl (ex_extract rfl rfl) ?_
  refine JL_q (wants_none rfl) rfl (ex_extract rfl rfl) ?_
  refine JL_q (wants_none rfl) rfl (ex_assign rfl) ?_
  refine JL_q (wants_none rfl) rfl (ex_assign rfl) ?_
  refine JL_nil ?_
  refine N_then ?_
  refine J_seq ?_
  refine J_seq ?_
  refine J_region ?_
  refine JL_q (wants_none rfl) rfl (ex_move rfl) ?_
  refine JL_nil ?_
  refine N_then ?_
  refine J_block ?_
  refine J_seq ?_
  refine J_region ?_
  refine JL_q (wants_none rfl) rfl (ex_eql rfl rfl) ?_
  refine JL_q (wants_none rfl) rfl (ex_assign rfl) ?_
  refine JL_nil ?_
  refine N_then ?_
  refine J_if rfl (fun h6 => ?_) (fun h6 => ?_)
  · refine J_seq ?_
    refine J_region ?_
    refine JL_q (wants_none rfl) rfl (ex_build si_32 rfl .nil (fun w hh => trivial)) ?_
    refine JL_sk (wants_none rfl) (sk_store_bx' 0 ti_32 rfl rfl (fun w hh => (cv_aggs ⟨cv_int, cv_slice, trivial⟩)) rfl rfl rfl rfl) ?_
    refine JL_q (wants_none rfl) rfl (ex_assign rfl) ?_
    refine JL_nil ?_
    refine N_then ?_
    refine J_ret ?_
    refine N_block_ret ?_
    refine N_then_ret ?_
    refine N_ctx (fun w hh => SH.od_nil (α := GTape) 91 hh) ?_
    refine N_ctx (fun w hh => hh.tok 0 rfl) ?_
    exact N_ret2 rfl (rv_cell 2 rfl rfl ti_32 rfl) (rv_tmp rfl) (fun w hh => ⟨((.slice none 0 0 : Value), ((.slice none 0 0 : Value).ownBlock.toList ++ [])), rfl, hh.sel [0] rfl⟩)
  · refine J_seq ?_
    refine J_region ?_
    refine JL_q (wants_none rfl) rfl (ex_eql rfl rfl) ?_
    refine JL_q (wants_none rfl) rfl (ex_assign rfl) ?_
    refine JL_nil ?_
    refine N_then ?_
    refine J_if rfl (fun h7 => ?_) (fun h7 => ?_)
    · refine J_seq ?_
      refine J_region ?_
      refine JL_q (wants_none rfl) rfl (ex_build si_32 rfl .nil (fun w hh => trivial)) ?_
      refine JL_sk (wants_none rfl) (sk_store_bx' 0 ti_32 rfl rfl (fun w hh => (cv_aggs ⟨cv_int, cv_slice, trivial⟩)) rfl rfl rfl rfl) ?_
      refine JL_q (wants_none rfl) rfl (ex_assign rfl) ?_
      refine JL_nil ?_
      refine N_then ?_
      refine J_ret ?_
      refine N_block_ret ?_
      refine N_then_ret ?_
      refine N_ctx (fun w hh => SH.od_nil (α := GTape) 91 hh) ?_
      refine N_ctx (fun w hh => hh.tok 0 rfl) ?_
      exact N_ret2 rfl (rv_cell 2 rfl rfl ti_32 rfl) (rv_tmp rfl) (fun w hh => ⟨((.slice none 0 0 : Value), ((.slice none 0 0 : Value).ownBlock.toList ++ [])), rfl, hh.sel [0] rfl⟩)
    · refine J_skip ?_
      refine N_block ?_
      refine N_then ?_
      refine J_seq ?_
      refine J_region ?_
      refine JL_q (wants_none rfl) rfl (ex_load_bx_agg 1 ti_32 rfl rfl rfl rfl) ?_
      refine JL_bnd fun r8 hr9 => ?_
      refine JL_call (wants_none rfl) rfl Try.call32 rfl (Ca_self (fun _ => rfl) fun w hh => Con.mapx (v' := fun (x_ : Value × List Nat) => .agg #[.int .i64 r8.State, x_.1]) (fs' := fun x_ => [mkr x_.1 r8.Tapes x_.2]) (c_impl_copyMultiConfig _ w (fun _ hk => hk.elim) _ _ (GMultiConfig.rdmk (Rd.mk_int _ _ _) (hh.rd0 3 rfl)) _ hr9) (fun x_ w_ k_ => by obtain ⟨C_, k2_⟩ := SH.od_mk k_; exact ⟨(x_.1, C_), rfl, k2_⟩)) (fun x10 => ?_)
      obtain ⟨x10_0, x10_1⟩ := x10
      refine JL_st (wants_none rfl) rfl (st_alloc zi_32 rfl) (fun b11 => ?_)
      refine JL_sk (wants_none rfl) (sk_store_bx' 0 ti_32 rfl rfl (fun w hh => (cv_aggs ⟨cv_int, (hh.cv_mk 1 rfl), trivial⟩)) rfl rfl rfl rfl) ?_
      refine JL_nil ?_
      refine N_then ?_
      refine J_seq ?_
      refine J_seq ?_
      refine J_region ?_
      refine JL_q (wants_none rfl) rfl (ex_fieldAddr fi_37_3 rfl rfl) ?_
      refine JL_q (wants_none rfl) rfl (ex_load_bx 4 ti_35 rfl rfl rfl) ?_
      refine JL_q (wants_none rfl) rfl (ex_move rfl) ?_
      refine JL_bnd fun y12 hy13 => ?_
      refine JL_st (wants_none rfl) rfl (st_index 6 Try.underlying35 ti_68 rfl rfl rfl hy13) (fun q14 => ?_)
      refine JL_st (wants_none rfl) rfl (st_load_pt_o 0 (GMultiRule.opens _) ti_68 rfl rfl) (fun v15 => ?_)
      refine JL_inline (wants_none rfl) rfl Try.call33 rfl Try.func33 rfl Try.ntmps33 rfl rfl (fun K_ hK16 => ?_)
      refine J_seq ?_
      refine J_region ?_
      refine JL_st (wants_none rfl) rfl (st_box' rfl (fun w hh => (cv_aggs ⟨cv_int, (hh.cv 0 rfl), (hh.cv 1 rfl), (hh.cv 2 rfl), cv_int, trivial⟩))) (fun b17 => ?_)
      refine JL_q (wants_none rfl) rfl (ex_assign rfl) ?_
      refine JL_nil ?_
      refine N_then ?_
      refine J_seq ?_
      refine J_region ?_
      refine JL_q (wants_none rfl) rfl (ex_assign rfl) ?_
      refine JL_nil ?_
      refine N_then ?_
      refine J_seq ?_
      refine J_seq ?_
      refine J_region ?_
      refine JL_q (wants_none rfl) rfl (ex_move rfl) ?_
      refine JL_q (wants_none rfl) rfl (ex_nilCheck rfl) ?_
      refine JL_q (wants_none rfl) rfl (ex_fieldAddr fi_32_1 rfl rfl) ?_
      refine JL_q (wants_none rfl) rfl (ex_load_bx 5 ti_30 rfl rfl rfl) ?_
      refine JL_q (wants_none rfl) rfl (ex_len_mk 6 Try.underlying30 rfl rfl) ?_
      refine JL_q (wants_none rfl) rfl (ex_move rfl) ?_
      refine JL_nil ?_
      refine N_then ?_
      refine J_loop' (S := (List GTape) × Bool × Int) (G := Value × List Nat) (F_impl_StepMulti_L1 r8 y12) (fun s18 g19 => [(0, .pointer (some ⟨b11, 0, none⟩)), (3, .pointer (some ⟨b17, 0, none⟩)), (5, .bool s18.2.1), (12, .int .i64 (r8.Tapes.length : Int)), (13, .int .i64 s18.2.2)]) (fun s18 g19 => [mkr g19.1 s18.1 g19.2, .bx b11 32 [.int .i64 r8.State, g19.1], .rd v15.1 y12.Read, .rd v15.2.1 y12.Write, .rd v15.2.2 y12.Move, .bx b17 68 [.int .i64 y12.State, v15.1, v15.2.1, v15.2.2, .int .i64 y12.Next], .bx b3 32 [.int .i64 0, .slice none 0 0]]) (r8.Tapes, true, 0) (x10_0, x10_1) ⟨rfl, rfl, rfl, rfl, rfl, trivial⟩ [6, 5, 1, 2, 3, 0, 7] rfl rfl (fun s18 g19 => ?_) (fun s18 g19 => ?_)
      · obtain ⟨g19_0, g19_1⟩ := g19
        unfold F_impl_StepMulti_L1
        refine J_seq ?_
        refine J_region ?_
        refine JL_q (wants_none rfl) rfl (ex_lss rfl rfl) ?_
        refine JL_nil ?_
        refine N_then ?_
        refine J_seq ?_
        refine J_if rfl (fun h20 => ?_) (fun h20 => ?_)
        · refine J_skip ?_
          refine N_then ?_
          refine J_seq ?_
          refine J_block ?_
          refine J_seq ?_
          refine J_region ?_
          refine JL_q (wants_none rfl) rfl (ex_move rfl) ?_
          refine JL_q (wants_none rfl) rfl (ex_assign rfl) ?_
          refine JL_nil ?_
          refine N_then ?_
          refine J_seq ?_
          refine J_region ?_
          refine JL_q (wants_none rfl) rfl (ex_move rfl) ?_
          refine JL_q (wants_none rfl) rfl (ex_nilCheck rfl) ?_
          refine JL_q (wants_none rfl) rfl (ex_fieldAddr fi_32_1 rfl rfl) ?_
          refine JL_q (wants_none rfl) rfl (ex_load_bx 1 ti_30 rfl rfl rfl) ?_
          refine JL_q (wants_none rfl) rfl (ex_move rfl) ?_
          refine JL_bnd fun y21 hy22 => ?_
          refine JL_mk_open 0 rfl hy22 ?_; rintro b23 o25 cap24 rfl
          refine JL_hole 0 rfl hy22 rfl (GTape.two _) ?_; intro L26 R27 v28 v29 C30 C31 Ba32 Bb33 tt34 hL35
          refine JL_q (wants_none rfl) rfl (ex_index_hole Try.underlying30 ti_91 rfl rfl hy22 rfl hL35) ?_
          refine JL_q (wants_none rfl) rfl (ex_assign rfl) ?_
          refine JL_nil ?_
          refine N_then ?_
          refine J_seq ?_
          refine J_draw [0, 1, 2] (by kernel_rfl) ?_
          refine JP_take (i := 0) [3, 4, 5, 6, 7, 8, 9, 10] [0, 1, 2] rfl (by kernel_rfl) (by kernel_rfl) (by kernel_rfl) rfl rfl (wants_none rfl) rfl (ex_move rfl) ?_
          refine JP_take (i := 1) [3, 4, 5, 6, 7, 8, 9, 10] [0, 1, 2] rfl (by kernel_rfl) (by kernel_rfl) (by kernel_rfl) rfl rfl (wants_none rfl) rfl (ex_fieldAddr fi_68_2 rfl rfl) ?_
          refine JP_take (i := 2) [3, 4, 5, 6, 7, 8, 9, 10] [0, 1, 2] rfl (by kernel_rfl) (by kernel_rfl) (by kernel_rfl) rfl rfl (wants_none rfl) rfl (ex_load_bx 6 ti_66 rfl rfl rfl) ?_
          refine JP_take (i := 3) [3, 4, 5, 6, 7, 8, 9, 10] [0, 1, 2] rfl (by kernel_rfl) (by kernel_rfl) (by kernel_rfl) rfl rfl (wants_none rfl) rfl (ex_move rfl) ?_
          refine JP_bnd fun y36 hy37 => ?_
          refine JP_sq (i := 4) [0, 1, 2] rfl (by kernel_rfl) (by kernel_rfl) (by kernel_rfl) rfl (wants_none rfl) rfl (sq_index 7 Try.underlying66 ti_2 rfl rfl rfl hy37) (fun q38 => ?_)
          refine JP_sq (i := 5) [1, 2, 3] rfl (by kernel_rfl) (by kernel_rfl) (by kernel_rfl) rfl (wants_none rfl) rfl (sq_load_pt_o 0 (opens_int _) ti_2 rfl rfl) (fun _ => ?_)
          refine JP_take (i := 6) [0, 4, 5, 6, 7, 8, 9, 10, 11] [1, 2, 3] rfl (by kernel_rfl) (by kernel_rfl) (by kernel_rfl) rfl rfl (wants_none rfl) rfl (ex_fieldAddr fi_68_3 rfl rfl) ?_
          refine JP_take (i := 7) [0, 4, 5, 6, 7, 8, 9, 10, 11] [1, 2, 3] rfl (by kernel_rfl) (by kernel_rfl) (by kernel_rfl) rfl rfl (wants_none rfl) rfl (ex_load_bx 7 ti_66 rfl rfl rfl) ?_
          refine JP_take (i := 8) [0, 4, 5, 6, 7, 8, 9, 10, 11] [1, 2, 3] rfl (by kernel_rfl) (by kernel_rfl) (by kernel_rfl) rfl rfl (wants_none rfl) rfl (ex_move rfl) ?_
          refine JP_bnd fun y40 hy41 => ?_
          refine JP_sq (i := 9) [1, 2, 3] rfl (by kernel_rfl) (by kernel_rfl) (by kernel_rfl) rfl (wants_none rfl) rfl (sq_index 9 Try.underlying66 ti_2 rfl rfl rfl hy41) (fun q42 => ?_)
          refine JP_sq (i := 10) [2, 3, 4] rfl (by kernel_rfl) (by kernel_rfl) (by kernel_rfl) rfl (wants_none rfl) rfl (sq_load_pt_o 0 (opens_int _) ti_2 rfl rfl) (fun _ => ?_)
          refine JP_go [0, 1, 5, 6, 7, 8, 9, 10, 11, 12] [2, 3, 4] rfl rfl rfl (fun w45 h1_46 hp44 => ?_)
          refine JD_bnd fun r47 hr48 => ?_
          refine JD_one (i := 11) (by kernel_rfl) ?_
          refine JO_callT rfl (wants_none rfl) rfl Try.call60 rfl (CaT_of [2, 3, 4] [0, 1, 5, 6, 7, 8, 9, 10, 11, 12] rfl rfl (fun _ => rfl) fun w hh => c_impl_Tape_write w b23 y21 L26 R27 tt34 v28 C30 v29 C31 _ rfl (hh.handed [2, 3, 4] rfl rfl rfl rfl) _ _ _ hr48) (fun k hk => (List.mem_append.1 hk).elim ((sub_bx 0 rfl) k) ((fun k hk => (List.mem_append.1 hk).elim ((sub_mk 1 rfl) k) ((fun k hk => (List.mem_append.1 hk).elim ((sub_mk 2 rfl) k) ((fun k hk => absurd hk List.not_mem_nil) k)) k)) k)) (fun x49 => ?_)
          obtain ⟨x49_0, x49_1, x49_2, x49_3⟩ := x49
          refine JD_done (by kernel_rfl) ?_
          refine N_then ?_
          refine J_region ?_
          refine JL_q (wants_none rfl) rfl (ex_move rfl) ?_
          refine JL_q (wants_none rfl) rfl (ex_move rfl) ?_
          refine JL_cond (fun h50 => ?_) (fun h50 => ?_)
          · refine JL_q (wants_some rfl rfl rfl h50) rfl (ex_move rfl) ?_
            refine JL_q (wants_some rfl rfl rfl h50) rfl (ex_nilCheck rfl) ?_
            refine JL_q (wants_some rfl rfl rfl h50) rfl (ex_fieldAddr fi_91_0 rfl rfl) ?_
            refine JL_q (wants_some rfl rfl rfl h50) rfl (ex_load_bx 0 ti_66 rfl rfl (app_at (j := 0) rfl)) ?_
            refine JL_q (wants_some rfl rfl rfl h50) rfl (ex_len_mk 1 Try.underlying66 rfl rfl) ?_
            refine JL_q (wants_some rfl rfl rfl h50) rfl (ex_leq rfl rfl) ?_
            refine JL_q (wants_none rfl) rfl (ex_pick_true rfl h50 rfl) ?_
            refine JL_q (wants_none rfl) rfl (ex_move rfl) ?_
            refine JL_cond (fun h51 => ?_) (fun h51 => ?_)
            · refine JL_q (wants_some rfl rfl rfl h51) rfl (ex_move rfl) ?_
              refine JL_q (wants_some rfl rfl rfl h51) rfl (ex_nilCheck rfl) ?_
              refine JL_q (wants_some rfl rfl rfl h51) rfl (ex_fieldAddr fi_91_1 rfl rfl) ?_
              refine JL_q (wants_some rfl rfl rfl h51) rfl (ex_load_bx 0 ti_66 rfl rfl (app_at (j := 1) rfl)) ?_
              refine JL_q (wants_some rfl rfl rfl h51) rfl (ex_len_mk 2 Try.underlying66 rfl rfl) ?_
              refine JL_q (wants_some rfl rfl rfl h51) rfl (ex_leq rfl rfl) ?_
              refine JL_q (wants_none rfl) rfl (ex_pick_true rfl h51 rfl) ?_
              refine JL_q (wants_none rfl) rfl (ex_assign rfl) ?_
              refine JL_nil ?_
              refine N_block ?_
              refine N_then ?_
              refine J_region ?_
              refine JL_q (wants_none rfl) rfl (ex_add rfl rfl) ?_
              refine JL_q (wants_none rfl) rfl (ex_move rfl) ?_
              refine JL_nil ?_
              refine N_ctx (fun w2_ hh => SH.hole_close (idx_eq hy22).2.1 (GTape.two (⟨r47.2.1, r47.2.2⟩ : GTape)) (show SH _ _ w2_ [.bx b23 tt34 (L26 ++ [x49_0, x49_2] ++ R27), mkr x49_0 r47.2.1 x49_1, mkr x49_2 r47.2.2 x49_3, hol o25 cap24 s18.1 s18.2.2.toNat L26 R27 Ba32 Bb33, .pt q42 y40, .pt q38 y36, .bx b11 32 [.int .i64 r8.State, (.slice (some ⟨b23, o25, none⟩) s18.1.length cap24)], .rd v15.1 y12.Read, .rd v15.2.1 y12.Write, .rd v15.2.2 y12.Move, .bx b17 68 [.int .i64 y12.State, v15.1, v15.2.1, v15.2.2, .int .i64 y12.Next], .bx b3 32 [.int .i64 0, .slice none 0 0]] from hh.sel [0, 1, 2, 5, 3, 4, 7, 8, 9, 10, 11, 12] rfl)) ?_
              exact N_next' ((.slice (some ⟨b23, o25, none⟩) s18.1.length cap24), (b23 :: (Ba32 ++ (x49_1 ++ x49_3 ++ Bb33)))) ⟨rfl, rfl, rfl, rfl, rfl, trivial⟩ [0, 3, 4, 5, 6, 7, 8] rfl rfl
            · refine JL_passed rfl rfl rfl h51 ?_
              refine JL_passed rfl rfl rfl h51 ?_
              refine JL_passed rfl rfl rfl h51 ?_
              refine JL_passed rfl rfl rfl h51 ?_
              refine JL_passed rfl rfl rfl h51 ?_
              refine JL_passed rfl rfl rfl h51 ?_
              refine JL_q (wants_none rfl) rfl (ex_pick_false rfl h51 rfl) ?_
              refine JL_q (wants_none rfl) rfl (ex_assign rfl) ?_
              refine JL_nil ?_
              refine N_block ?_
              refine N_then ?_
              refine J_region ?_
              refine JL_q (wants_none rfl) rfl (ex_add rfl rfl) ?_
              refine JL_q (wants_none rfl) rfl (ex_move rfl) ?_
              refine JL_nil ?_
              refine N_ctx (fun w2_ hh => SH.hole_close (idx_eq hy22).2.1 (GTape.two (⟨r47.2.1, r47.2.2⟩ : GTape)) (show SH _ _ w2_ [.bx b23 tt34 (L26 ++ [x49_0, x49_2] ++ R27), mkr x49_0 r47.2.1 x49_1, mkr x49_2 r47.2.2 x49_3, hol o25 cap24 s18.1 s18.2.2.toNat L26 R27 Ba32 Bb33, .pt q42 y40, .pt q38 y36, .bx b11 32 [.int .i64 r8.State, (.slice (some ⟨b23, o25, none⟩) s18.1.length cap24)], .rd v15.1 y12.Read, .rd v15.2.1 y12.Write, .rd v15.2.2 y12.Move, .bx b17 68 [.int .i64 y12.State, v15.1, v15.2.1, v15.2.2, .int .i64 y12.Next], .bx b3 32 [.int .i64 0, .slice none 0 0]] from hh.sel [0, 1, 2, 5, 3, 4, 7, 8, 9, 10, 11, 12] rfl)) ?_
              exact N_next' ((.slice (some ⟨b23, o25, none⟩) s18.1.length cap24), (b23 :: (Ba32 ++ (x49_1 ++ x49_3 ++ Bb33)))) ⟨rfl, rfl, rfl, rfl, rfl, trivial⟩ [0, 3, 4, 5, 6, 7, 8] rfl rfl
          · refine JL_passed rfl rfl rfl h50 ?_
            refine JL_passed rfl rfl rfl h50 ?_
            refine JL_passed rfl rfl rfl h50 ?_
            refine JL_passed rfl rfl rfl h50 ?_
            refine JL_passed rfl rfl rfl h50 ?_
            refine JL_passed rfl rfl rfl h50 ?_
            refine JL_q (wants_none rfl) rfl (ex_pick_false rfl h50 rfl) ?_
            refine JL_q (wants_none rfl) rfl (ex_move rfl) ?_
            refine JL_passed rfl rfl rfl rfl ?_
            refine JL_passed rfl rfl rfl rfl ?_
            refine JL_passed rfl rfl rfl rfl ?_
            refine JL_passed rfl rfl rfl rfl ?_
            refine JL_passed rfl rfl rfl rfl ?_
            refine JL_passed rfl rfl rfl rfl ?_
            refine JL_q (wants_none rfl) rfl (ex_pick_false rfl rfl rfl) ?_
            refine JL_q (wants_none rfl) rfl (ex_assign rfl) ?_
            refine JL_nil ?_
            refine N_block ?_
            refine N_then ?_
            refine J_region ?_
            refine JL_q (wants_none rfl) rfl (ex_add rfl rfl) ?_
            refine JL_q (wants_none rfl) rfl (ex_move rfl) ?_
            refine JL_nil ?_
            refine N_ctx (fun w2_ hh => SH.hole_close (idx_eq hy22).2.1 (GTape.two (⟨r47.2.1, r47.2.2⟩ : GTape)) (show SH _ _ w2_ [.bx b23 tt34 (L26 ++ [x49_0, x49_2] ++ R27), mkr x49_0 r47.2.1 x49_1, mkr x49_2 r47.2.2 x49_3, hol o25 cap24 s18.1 s18.2.2.toNat L26 R27 Ba32 Bb33, .pt q42 y40, .pt q38 y36, .bx b11 32 [.int .i64 r8.State, (.slice (some ⟨b23, o25, none⟩) s18.1.length cap24)], .rd v15.1 y12.Read, .rd v15.2.1 y12.Write, .rd v15.2.2 y12.Move, .bx b17 68 [.int .i64 y12.State, v15.1, v15.2.1, v15.2.2, .int .i64 y12.Next], .bx b3 32 [.int .i64 0, .slice none 0 0]] from hh.sel [0, 1, 2, 5, 3, 4, 7, 8, 9, 10, 11, 12] rfl)) ?_
            exact N_next' ((.slice (some ⟨b23, o25, none⟩) s18.1.length cap24), (b23 :: (Ba32 ++ (x49_1 ++ x49_3 ++ Bb33)))) ⟨rfl, rfl, rfl, rfl, rfl, trivial⟩ [0, 3, 4, 5, 6, 7, 8] rfl rfl
        · refine J_exit ?_
          refine N_then_exit ?_
          exact N_break' (g19_0, g19_1) ⟨rfl, rfl, rfl, rfl, rfl, trivial⟩ [0, 1, 2, 3, 4, 5, 6] rfl rfl
      · obtain ⟨g19_0, g19_1⟩ := g19
        refine N_then ?_
        refine J_seq ?_
        refine J_region ?_
        refine JL_q (wants_none rfl) rfl (ex_move rfl) ?_
        refine JL_q (wants_none rfl) rfl (ex_fieldAddr fi_68_4 rfl rfl) ?_
        refine JL_q (wants_none rfl) rfl (ex_load_bx 5 ti_2 rfl rfl rfl) ?_
        refine JL_q (wants_none rfl) rfl (ex_nilCheck rfl) ?_
        refine JL_q (wants_none rfl) rfl (ex_fieldAddr fi_32_0 rfl rfl) ?_
        refine JL_sk (wants_none rfl) (sk_store_bx' 1 ti_2 rfl rfl (fun w hh => cv_int) rfl rfl rfl rfl) ?_
        refine JL_nil ?_
        refine N_then ?_
        refine J_seq ?_
        refine J_region ?_
        refine JL_q (wants_none rfl) rfl (ex_move rfl) ?_
        refine JL_q (wants_none rfl) rfl (ex_assign rfl) ?_
        refine JL_nil ?_
        refine N_then ?_
        refine J_ret ?_
        refine N_inl1 hK16 rfl (rv_tmp rfl) ?_
        refine JL_q (wants_none rfl) rfl (ex_not rfl) ?_
        refine JL_nil ?_
        refine N_then ?_
        refine J_if rfl (fun h52 => ?_) (fun h52 => ?_)
        · refine J_seq ?_
          refine J_region ?_
          refine JL_q (wants_none rfl) rfl (ex_build si_32 rfl .nil (fun w hh => trivial)) ?_
          refine JL_sk (wants_none rfl) (sk_store_bx' 6 ti_32 rfl rfl (fun w hh => (cv_aggs ⟨cv_int, cv_slice, trivial⟩)) rfl rfl rfl rfl) ?_
          refine JL_q (wants_none rfl) rfl (ex_assign rfl) ?_
          refine JL_nil ?_
          refine N_then ?_
          refine J_ret ?_
          refine N_then_ret ?_
          refine N_ctx (fun w hh => SH.od_nil (α := GTape) 91 hh) ?_
          refine N_ctx (fun w hh => hh.tok 0 rfl) ?_
          exact N_ret2 rfl (rv_cell 8 rfl rfl ti_32 rfl) (rv_tmp rfl) (fun w hh => ⟨((.slice none 0 0 : Value), ((.slice none 0 0 : Value).ownBlock.toList ++ [])), rfl, hh.sel [0] rfl⟩)
        · refine J_skip ?_
          refine N_then ?_
          refine J_seq ?_
          refine J_region ?_
          refine JL_q (wants_none rfl) rfl (ex_load_bx_agg 1 ti_32 rfl rfl rfl rfl) ?_
          refine JL_sk (wants_none rfl) (sk_store_bx' 6 ti_32 rfl rfl (fun w hh => (cv_aggs ⟨cv_int, (hh.cv_mk 0 rfl), trivial⟩)) rfl rfl rfl rfl) ?_
          refine JL_q (wants_none rfl) rfl (ex_assign rfl) ?_
          refine JL_nil ?_
          refine N_then ?_
          refine J_ret ?_
          refine N_ctx (fun w hh => hh.mktok 0 rfl) ?_
          exact N_ret2 rfl (rv_cell 7 rfl rfl ti_32 rfl) (rv_tmp rfl) (fun w hh => ⟨(g19_0, g19_1), rfl, hh.sel [0] rfl⟩)

set_option maxHeartbeats 40000000 in
theorem c_laws_FnExactStepMulti (A : Nat → Prop) (w : World) (hA : ∀ k, A k → k < w.heap.size) (v0_ : Value) (p0 : GMulti) (hp0 : Rd A w v0_ p0) (v1_ : Value) (p1 : GMultiConfig) (hp1 : Rd A w v1_ p1) (r : Bool) (hr : F_laws_FnExactStepMulti p0 p1 = some r) :
    Con Try.prog 3 [v0_, v1_] A w (fun x_ : Unit => .bool r) (fun x_ => []) := by
  obtain ⟨v0_0, rfl, hp0_0⟩ := GMulti.open hp0
  obtain ⟨v1_0, rfl, hp1_0⟩ := GMultiConfig.open hp1
  refine Con_of (v := fun (r : Bool) (x_ : Unit) => .bool r) (fs := fun r x_ => []) Try.func3 rfl Try.ntmps3 rfl (((SH.start hA).start_rd rfl hp0_0).start_rd rfl hp1_0) rfl ?_ hr
  unfold F_laws_FnExactStepMulti
  refine J_seq ?_
  refine J_region ?_
  refine JL_st (wants_none rfl) rfl (st_box' rfl (fun w hh => (cv_aggs ⟨cv_int, cv_int, cv_int, (hh.cv 1 rfl), trivial⟩))) (fun b1 => ?_)
  refine JL_st (wants_none rfl) rfl (st_box' rfl (fun w hh => (cv_aggs ⟨cv_int, (hh.cv 1 rfl), trivial⟩))) (fun b2 => ?_)
  refine JL_q (wants_none rfl) rfl (ex_assign rfl) ?_
  refine JL_nil ?_
  refine N_then ?_
  refine J_seq ?_
  refine J_region ?_
  refine JL_q (wants_none rfl) rfl (ex_assign rfl) ?_
  refine JL_nil ?_
  refine N_then ?_
  refine J_seq ?_
  refine J_region ?_
  refine JL_q (wants_none rfl) rfl (ex_load_bx_agg 1 ti_24 rfl rfl rfl rfl) ?_
  refine JL_q (wants_none rfl) rfl (ex_move rfl) ?_
  refine JL_bnd fun r3 hr4 => ?_
  refine JL_call (wants_none rfl) rfl Try.call6 rfl (Ca_of0 fun w hh => c_laws_szMulti _ w (fun _ hk => hk.elim) _ _ (GMulti.rdmk (Rd.mk_int _ _ _) (Rd.mk_int _ _ _) (Rd.mk_int _ _ _) (hh.rd0 3 rfl)) _ _ hr4) (fun _ => ?_)
  refine JL_q (wants_none rfl) rfl (ex_assign rfl) ?_
  refine JL_nil ?_
  refine N_then ?_
  refine J_seq ?_
  refine J_seq ?_
  refine J_region ?_
  refine JL_q (wants_none rfl) rfl (ex_move rfl) ?_
  refine JL_q (wants_none rfl) rfl (ex_lss rfl rfl) ?_
  refine JL_nil ?_
  refine N_then ?_
  refine J_if rfl (fun h5 => ?_) (fun h5 => ?_)
  · refine J_seq ?_
    refine J_region ?_
    refine JL_q (wants_none rfl) rfl (ex_assign rfl) ?_
    refine JL_nil ?_
    refine N_then ?_
    refine J_ret ?_
    refine N_then_ret ?_
    exact N_ret1 rfl (rv_tmp rfl) (fun w hh => ⟨(), rfl, hh.sel [] rfl⟩)
  · refine J_skip ?_
    refine N_then ?_
    refine J_seq ?_
    refine J_region ?_
    refine JL_q (wants_none rfl) rfl (ex_load_bx_agg 0 ti_27 rfl rfl rfl rfl) ?_
    refine JL_q (wants_none rfl) rfl (ex_move rfl) ?_
    refine JL_bnd fun r6 hr7 => ?_
    refine JL_call (wants_none rfl) rfl Try.call7 rfl (Ca_of0 fun w hh => c_laws_szMultiConfig _ w (fun _ hk => hk.elim) _ _ (GMultiConfig.rdmk (Rd.mk_int _ _ _) (hh.rd0 2 rfl)) _ _ hr7) (fun _ => ?_)
    refine JL_q (wants_none rfl) rfl (ex_assign rfl) ?_
    refine JL_nil ?_
    refine N_then ?_
    refine J_seq ?_
    refine J_seq ?_
    refine J_region ?_
    refine JL_q (wants_none rfl) rfl (ex_move rfl) ?_
    refine JL_q (wants_none rfl) rfl (ex_lss rfl rfl) ?_
    refine JL_nil ?_
    refine N_then ?_
    refine J_if rfl (fun h8 => ?_) (fun h8 => ?_)
    · refine J_seq ?_
      refine J_region ?_
      refine JL_q (wants_none rfl) rfl (ex_assign rfl) ?_
      refine JL_nil ?_
      refine N_then ?_
      refine J_ret ?_
      refine N_then_ret ?_
      exact N_ret1 rfl (rv_tmp rfl) (fun w hh => ⟨(), rfl, hh.sel [] rfl⟩)
    · refine J_skip ?_
      refine N_then ?_
      refine J_seq ?_
      refine J_cut' (S' := Int × (List GTape) × Int) (G' := Value × List Nat × Nat) (fun s9 g10 => [(2, .pointer (some ⟨b1, 0, none⟩)), (3, .pointer (some ⟨b2, 0, none⟩)), (6, .pointer (some ⟨g10.2.2, 0, none⟩)), (7, .int .i64 s9.2.2)]) (fun s9 g10 => [.rd v0_0 p0.Rules, .bx b1 24 [.int .i64 p0.Tapes, .int .i64 p0.Symbols, .int .i64 p0.States, v0_0], .rd v1_0 p1.Tapes, .bx b2 27 [.int .i64 p1.State, v1_0], .od 91 g10.1 s9.2.1 g10.2.1, .bx g10.2.2 32 [.int .i64 s9.1, g10.1]]) ?_ (fun s9 g10 => ?_)
      · refine J_draw [] (by kernel_rfl) ?_
        refine JP_take (i := 0) [0, 1, 2, 3] [] rfl (by kernel_rfl) (by kernel_rfl) (by kernel_rfl) rfl rfl (wants_none rfl) rfl (ex_load_bx_agg 1 ti_24 rfl rfl rfl rfl) ?_
        refine JP_take (i := 2) [0, 1, 2, 3] [] rfl (by kernel_rfl) (by kernel_rfl) (by kernel_rfl) rfl rfl (wants_none rfl) rfl (ex_load_bx_agg 0 ti_27 rfl rfl rfl rfl) ?_
        refine JP_go [0, 1, 2, 3] [] rfl rfl rfl (fun w12 h1_13 hp11 => ?_)
        refine JD_bnd fun r14 hr15 => ?_
        refine JD_two (i := 1) (j := 8) (by kernel_rfl) ?_ ?_
        · refine JO_call rfl (wants_none rfl) rfl Try.call9 rfl (Ca_self (fun _ => rfl) fun w hh => c_laws_toMulti _ w (fun _ hk => hk.elim) _ _ (GMulti.rdmk (Rd.mk_int _ _ _) (Rd.mk_int _ _ _) (Rd.mk_int _ _ _) (hh.rd0 3 rfl)) _ hr15) (fun x16 => ?_)
          obtain ⟨x16_0, x16_1⟩ := x16
          refine JD_bnd fun r17 hr18 => ?_
          refine JD_two (i := 3) (j := 8) (by kernel_rfl) ?_ ?_
          · refine JO_call rfl (wants_none rfl) rfl Try.call10 rfl (Ca_self (fun _ => rfl) fun w hh => c_laws_toMultiConfig _ w (fun _ hk => hk.elim) _ _ (GMultiConfig.rdmk (Rd.mk_int _ _ _) (hh.rd0 3 rfl)) _ hr18) (fun x19 => ?_)
            obtain ⟨x19_0, x19_1⟩ := x19
            refine JD_bnd fun r20 hr21 => ?_
            refine JD_two (i := 4) (j := 8) (by kernel_rfl) ?_ ?_
            · refine JO_call rfl (wants_none rfl) rfl Try.call8 rfl (Ca_self (fun _ => rfl) fun w hh => c_spec_StepMulti _ w (fun _ hk => hk.elim) _ _ (GMulti.rdmk (Rd.mk_int _ _ _) (Rd.mk_int _ _ _) (Rd.mk_int _ _ _) (hh.od0 1 rfl)) _ _ (GMultiConfig.rdmk (Rd.mk_int _ _ _) (hh.od0 0 rfl)) _ hr21) (fun x22 => ?_)
              obtain ⟨x22_0, x22_1⟩ := x22
              refine JD_take (i := 5) hp11 rfl (by kernel_rfl) (by kernel_rfl) (by kernel_rfl) (wants_none rfl) rfl (ex_move rfl) ?_
              refine JD_take (i := 6) hp11 rfl (by kernel_rfl) (by kernel_rfl) (by kernel_rfl) (wants_none rfl) rfl (ex_extract rfl rfl) ?_
              refine JD_take (i := 7) hp11 rfl (by kernel_rfl) (by kernel_rfl) (by kernel_rfl) (wants_none rfl) rfl (ex_extract rfl rfl) ?_
              refine JD_one (i := 8) (by kernel_rfl) ?_
              refine JO_st rfl (wants_none rfl) rfl (st_alloc zi_32 rfl) (fun _ hk => nomatch hk) (fun b23 => ?_)
              refine JD_one (i := 9) (by kernel_rfl) ?_
              refine JO_sk2 0 [] [0, 1, 2, 3] [4, 5, 6, 7] rfl rfl rfl rfl rfl rfl (wants_none rfl) (sk_store_bx' 0 ti_32 rfl rfl (fun w hh => (cv_aggs ⟨cv_int, (hh.cv_od 1 rfl), trivial⟩)) rfl rfl rfl rfl) (fun _ hk => hk) ?_
              refine JD_take (i := 10) hp11 rfl (by kernel_rfl) (by kernel_rfl) (by kernel_rfl) (wants_none rfl) rfl (ex_assign rfl) ?_
              refine JD_done (by kernel_rfl) ?_
              exact N_meet' (x22_0, x22_1, b23) ⟨rfl, rfl, rfl, rfl, trivial⟩ [7, 5, 6, 4, 1, 0] rfl rfl
            · refine JO_st rfl (wants_none rfl) rfl (st_alloc zi_32 rfl) (fun _ hk => nomatch hk) (fun b24 => ?_)
              refine JD_one (i := 4) (by kernel_rfl) ?_
              refine JO_call rfl (wants_none rfl) rfl Try.call8 rfl (Ca_self (fun _ => rfl) fun w hh => c_spec_StepMulti _ w (fun _ hk => hk.elim) _ _ (GMulti.rdmk (Rd.mk_int _ _ _) (Rd.mk_int _ _ _) (Rd.mk_int _ _ _) (hh.od0 2 rfl)) _ _ (GMultiConfig.rdmk (Rd.mk_int _ _ _) (hh.od0 1 rfl)) _ hr21) (fun x25 => ?_)
              obtain ⟨x25_0, x25_1⟩ := x25
              refine JD_take (i := 5) hp11 rfl (by kernel_rfl) (by kernel_rfl) (by kernel_rfl) (wants_none rfl) rfl (ex_move rfl) ?_
              refine JD_take (i := 6) hp11 rfl (by kernel_rfl) (by kernel_rfl) (by kernel_rfl) (wants_none rfl) rfl (ex_extract rfl rfl) ?_
              refine JD_take (i := 7) hp11 rfl (by kernel_rfl) (by kernel_rfl) (by kernel_rfl) (wants_none rfl) rfl (ex_extract rfl rfl) ?_
              refine JD_one (i := 9) (by kernel_rfl) ?_
              refine JO_sk2 1 [] [0, 1, 2, 3] [4, 5, 6, 7] rfl rfl rfl rfl rfl rfl (wants_none rfl) (sk_store_bx' 1 ti_32 rfl rfl (fun w hh => (cv_aggs ⟨cv_int, (hh.cv_od 0 rfl), trivial⟩)) rfl rfl rfl rfl) (fun _ hk => hk) ?_
              refine JD_take (i := 10) hp11 rfl (by kernel_rfl) (by kernel_rfl) (by kernel_rfl) (wants_none rfl) rfl (ex_assign rfl) ?_
              refine JD_done (by kernel_rfl) ?_
              exact N_meet' (x25_0, x25_1, b24) ⟨rfl, rfl, rfl, rfl, trivial⟩ [7, 5, 6, 4, 0, 1] rfl rfl
          · refine JO_st rfl (wants_none rfl) rfl (st_alloc zi_32 rfl) (fun _ hk => nomatch hk) (fun b26 => ?_)
            refine JD_one (i := 3) (by kernel_rfl) ?_
            refine JO_call rfl (wants_none rfl) rfl Try.call10 rfl (Ca_self (fun _ => rfl) fun w hh => c_laws_toMultiConfig _ w (fun _ hk => hk.elim) _ _ (GMultiConfig.rdmk (Rd.mk_int _ _ _) (hh.rd0 4 rfl)) _ hr18) (fun x27 => ?_)
            obtain ⟨x27_0, x27_1⟩ := x27
            refine JD_bnd fun r28 hr29 => ?_
            refine JD_one (i := 4) (by kernel_rfl) ?_
            refine JO_call rfl (wants_none rfl) rfl Try.call8 rfl (Ca_self (fun _ => rfl) fun w hh => c_spec_StepMulti _ w (fun _ hk => hk.elim) _ _ (GMulti.rdmk (Rd.mk_int _ _ _) (Rd.mk_int _ _ _) (Rd.mk_int _ _ _) (hh.od0 2 rfl)) _ _ (GMultiConfig.rdmk (Rd.mk_int _ _ _) (hh.od0 0 rfl)) _ hr29) (fun x30 => ?_)
            obtain ⟨x30_0, x30_1⟩ := x30
            refine JD_take (i := 5) hp11 rfl (by kernel_rfl) (by kernel_rfl) (by kernel_rfl) (wants_none rfl) rfl (ex_move rfl) ?_
            refine JD_take (i := 6) hp11 rfl (by kernel_rfl) (by kernel_rfl) (by kernel_rfl) (wants_none rfl) rfl (ex_extract rfl rfl) ?_
            refine JD_take (i := 7) hp11 rfl (by kernel_rfl) (by kernel_rfl) (by kernel_rfl) (wants_none rfl) rfl (ex_extract rfl rfl) ?_
            refine JD_one (i := 9) (by kernel_rfl) ?_
            refine JO_sk2 2 [] [0, 1, 2, 3] [4, 5, 6, 7] rfl rfl rfl rfl rfl rfl (wants_none rfl) (sk_store_bx' 2 ti_32 rfl rfl (fun w hh => (cv_aggs ⟨cv_int, (hh.cv_od 0 rfl), trivial⟩)) rfl rfl rfl rfl) (fun _ hk => hk) ?_
            refine JD_take (i := 10) hp11 rfl (by kernel_rfl) (by kernel_rfl) (by kernel_rfl) (wants_none rfl) rfl (ex_assign rfl) ?_
            refine JD_done (by kernel_rfl) ?_
            exact N_meet' (x30_0, x30_1, b26) ⟨rfl, rfl, rfl, rfl, trivial⟩ [7, 5, 6, 4, 0, 2] rfl rfl
        · refine JO_st rfl (wants_none rfl) rfl (st_alloc zi_32 rfl) (fun _ hk => nomatch hk) (fun b31 => ?_)
          refine JD_one (i := 1) (by kernel_rfl) ?_
          refine JO_call rfl (wants_none rfl) rfl Try.call9 rfl (Ca_self (fun _ => rfl) fun w hh => c_laws_toMulti _ w (fun _ hk => hk.elim) _ _ (GMulti.rdmk (Rd.mk_int _ _ _) (Rd.mk_int _ _ _) (Rd.mk_int _ _ _) (hh.rd0 4 rfl)) _ hr15) (fun x32 => ?_)
          obtain ⟨x32_0, x32_1⟩ := x32
          refine JD_bnd fun r33 hr34 => ?_
          refine JD_one (i := 3) (by kernel_rfl) ?_
          refine JO_call rfl (wants_none rfl) rfl Try.call10 rfl (Ca_self (fun _ => rfl) fun w hh => c_laws_toMultiConfig _ w (fun _ hk => hk.elim) _ _ (GMultiConfig.rdmk (Rd.mk_int _ _ _) (hh.rd0 4 rfl)) _ hr34) (fun x35 => ?_)
          obtain ⟨x35_0, x35_1⟩ := x35
          refine JD_bnd fun r36 hr37 => ?_
          refine JD_one (i := 4) (by kernel_rfl) ?_
          refine JO_call rfl (wants_none rfl) rfl Try.call8 rfl (Ca_self (fun _ => rfl) fun w hh => c_spec_StepMulti _ w (fun _ hk => hk.elim) _ _ (GMulti.rdmk (Rd.mk_int _ _ _) (Rd.mk_int _ _ _) (Rd.mk_int _ _ _) (hh.od0 1 rfl)) _ _ (GMultiConfig.rdmk (Rd.mk_int _ _ _) (hh.od0 0 rfl)) _ hr37) (fun x38 => ?_)
          obtain ⟨x38_0, x38_1⟩ := x38
          refine JD_take (i := 5) hp11 rfl (by kernel_rfl) (by kernel_rfl) (by kernel_rfl) (wants_none rfl) rfl (ex_move rfl) ?_
          refine JD_take (i := 6) hp11 rfl (by kernel_rfl) (by kernel_rfl) (by kernel_rfl) (wants_none rfl) rfl (ex_extract rfl rfl) ?_
          refine JD_take (i := 7) hp11 rfl (by kernel_rfl) (by kernel_rfl) (by kernel_rfl) (wants_none rfl) rfl (ex_extract rfl rfl) ?_
          refine JD_one (i := 9) (by kernel_rfl) ?_
          refine JO_sk2 3 [] [0, 1, 2, 3] [4, 5, 6, 7] rfl rfl rfl rfl rfl rfl (wants_none rfl) (sk_store_bx' 3 ti_32 rfl rfl (fun w hh => (cv_aggs ⟨cv_int, (hh.cv_od 0 rfl), trivial⟩)) rfl rfl rfl rfl) (fun _ hk => hk) ?_
          refine JD_take (i := 10) hp11 rfl (by kernel_rfl) (by kernel_rfl) (by kernel_rfl) (wants_none rfl) rfl (ex_assign rfl) ?_
          refine JD_done (by kernel_rfl) ?_
          exact N_meet' (x38_0, x38_1, b31) ⟨rfl, rfl, rfl, rfl, trivial⟩ [7, 5, 6, 4, 0, 3] rfl rfl
      · obtain ⟨g10_0, g10_1, g10_2⟩ := g10
        refine N_then ?_
        refine J_seq ?_
        refine J_region ?_
        refine JL_q (wants_none rfl) rfl (ex_load_bx_agg 1 ti_24 rfl rfl rfl rfl) ?_
        refine JL_bnd fun r39 hr40 => ?_
        refine JL_call (wants_none rfl) rfl Try.call9 rfl (Ca_self (fun _ => rfl) fun w hh => c_laws_toMulti _ w (fun _ hk => hk.elim) _ _ (GMulti.rdmk (Rd.mk_int _ _ _) (Rd.mk_int _ _ _) (Rd.mk_int _ _ _) (hh.rd0 0 rfl)) _ hr40) (fun x41 => ?_)
        obtain ⟨x41_0, x41_1⟩ := x41
        refine JL_st (wants_none rfl) rfl (st_alloc zi_37 rfl) (fun b42 => ?_)
        refine JL_sk (wants_none rfl) (sk_store_bx' 0 ti_37 rfl rfl (fun w hh => (cv_aggs ⟨cv_int, cv_int, cv_int, (hh.cv_od 1 rfl), trivial⟩)) rfl rfl rfl rfl) ?_
        refine JL_nil ?_
        refine N_then ?_
        refine J_seq ?_
        refine J_region ?_
        refine JL_q (wants_none rfl) rfl (ex_load_bx_agg 5 ti_27 rfl rfl rfl rfl) ?_
        refine JL_bnd fun r43 hr44 => ?_
        refine JL_call (wants_none rfl) rfl Try.call10 rfl (Ca_self (fun _ => rfl) fun w hh => c_laws_toMultiConfig _ w (fun _ hk => hk.elim) _ _ (GMultiConfig.rdmk (Rd.mk_int _ _ _) (hh.rd0 4 rfl)) _ hr44) (fun x45 => ?_)
        obtain ⟨x45_0, x45_1⟩ := x45
        refine JL_st (wants_none rfl) rfl (st_alloc zi_32 rfl) (fun b46 => ?_)
        refine JL_sk (wants_none rfl) (sk_store_bx' 0 ti_32 rfl rfl (fun w hh => (cv_aggs ⟨cv_int, (hh.cv_od 1 rfl), trivial⟩)) rfl rfl rfl rfl) ?_
        refine JL_nil ?_
        refine N_then ?_
        refine J_seq ?_
        refine J_region ?_
        refine JL_q (wants_none rfl) rfl (ex_load_bx_agg 2 ti_37 rfl rfl rfl rfl) ?_
        refine JL_q (wants_none rfl) rfl (ex_load_bx_agg 0 ti_32 rfl rfl rfl rfl) ?_
        refine JL_bnd fun r47 hr48 => ?_
        refine JL_call (wants_none rfl) rfl Try.call11 rfl (Ca_self (fun _ => rfl) fun w hh => c_impl_StepMulti _ w (fun _ hk => hk.elim) _ _ (GMulti.rdmk (Rd.mk_int _ _ _) (Rd.mk_int _ _ _) (Rd.mk_int _ _ _) (hh.od0 3 rfl)) _ _ (GMultiConfig.rdmk (Rd.mk_int _ _ _) (hh.od0 1 rfl)) _ hr48) (fun x49 => ?_)
        obtain ⟨x49_0, x49_1⟩ := x49
        refine JL_ctx (fun w hh => hh.tkn_rd 0 rfl) ?_
        refine JL_q (wants_none rfl) rfl (ex_move rfl) ?_
        refine JL_q (wants_none rfl) rfl (ex_extract rfl rfl) ?_
        refine JL_q (wants_none rfl) rfl (ex_extract rfl rfl) ?_
        refine JL_st (wants_none rfl) rfl (st_alloc zi_32 rfl) (fun b50 => ?_)
        refine JL_sk (wants_none rfl) (sk_store_bx' 0 ti_32 rfl rfl (fun w hh => (cv_aggs ⟨cv_int, (hh.cv 1 rfl), trivial⟩)) rfl rfl rfl rfl) ?_
        refine JL_q (wants_none rfl) rfl (ex_assign rfl) ?_
        refine JL_nil ?_
        refine N_then ?_
        refine J_seq ?_
        refine J_cut' (S' := Unit) (G' := Unit) (fun _ _ => [(2, .pointer (some ⟨b1, 0, none⟩)), (3, .pointer (some ⟨b2, 0, none⟩)), (6, .pointer (some ⟨g10_2, 0, none⟩)), (7, .int .i64 s9.2.2), (8, .pointer (some ⟨b42, 0, none⟩)), (9, .pointer (some ⟨b46, 0, none⟩)), (10, .pointer (some ⟨b50, 0, none⟩)), (11, .int .i64 r47.2)]) (fun _ _ => [.rd v0_0 p0.Rules, .bx b1 24 [.int .i64 p0.Tapes, .int .i64 p0.Symbols, .int .i64 p0.States, v0_0], .rd v1_0 p1.Tapes, .bx b2 27 [.int .i64 p1.State, v1_0], .od 91 g10_0 s9.2.1 g10_1, .bx g10_2 32 [.int .i64 s9.1, g10_0], .od 68 x41_0 r39.Rules x41_1, .bx b42 37 [.int .i64 r39.Tapes, .int .i64 r39.Symbols, .int .i64 r39.States, x41_0], .od 91 x45_0 r43.Tapes x45_1, .bx b46 32 [.int .i64 r43.State, x45_0], .rd x49_0 r47.1.Tapes, .tkn x49_0 r47.1.Tapes x49_1, .bx b50 32 [.int .i64 r47.1.State, x49_0]]) ?_ (fun s51 g52 => ?_)
        · refine J_seq ?_
          refine J_region ?_
          refine JL_q (wants_none rfl) rfl (ex_load_bx_agg 0 ti_32 rfl rfl rfl rfl) ?_
          refine JL_q (wants_none rfl) rfl (ex_load_bx_agg 12 ti_32 rfl rfl rfl rfl) ?_
          refine JL_bnd fun r53 hr54 => ?_
          refine JL_call (wants_none rfl) rfl Try.call12 rfl (Ca_of0 fun w hh => c_laws_eqMultiConfig _ w (fun _ hk => hk.elim) _ _ (GMultiConfig.rdmk (Rd.mk_int _ _ _) (hh.rd0 1 rfl)) _ _ (GMultiConfig.rdmk (Rd.mk_int _ _ _) (hh.od0 11 rfl)) _ hr54) (fun _ => ?_)
          refine JL_q (wants_none rfl) rfl (ex_not rfl) ?_
          refine JL_q (wants_none rfl) rfl (ex_move rfl) ?_
          refine JL_cond (fun h55 => ?_) (fun h55 => ?_)
          · refine JL_passed rfl rfl rfl h55 ?_
            refine JL_passed rfl rfl rfl h55 ?_
            refine JL_passed rfl rfl rfl h55 ?_
            refine JL_q (wants_none rfl) rfl (ex_pick_true rfl h55 rfl) ?_
            refine JL_nil ?_
            refine N_then ?_
            refine J_if_true rfl rfl ?_
            refine J_seq ?_
            refine J_region ?_
            refine JL_q (wants_none rfl) rfl (ex_assign rfl) ?_
            refine JL_nil ?_
            refine N_then ?_
            refine J_ret ?_
            refine N_mid_ret ?_
            refine N_then_ret ?_
            exact N_ret1 rfl (rv_tmp rfl) (fun w hh => ⟨(), rfl, hh.sel [] rfl⟩)
          · refine JL_q (wants_some rfl rfl rfl h55) rfl (ex_move rfl) ?_
            refine JL_q (wants_some rfl rfl rfl h55) rfl (ex_move rfl) ?_
            refine JL_q (wants_some rfl rfl rfl h55) rfl (ex_neq rfl rfl) ?_
            refine JL_q (wants_none rfl) rfl (ex_pick_false rfl h55 rfl) ?_
            refine JL_nil ?_
            refine N_then ?_
            refine J_if rfl (fun h56 => ?_) (fun h56 => ?_)
            · refine J_seq ?_
              refine J_region ?_
              refine JL_q (wants_none rfl) rfl (ex_assign rfl) ?_
              refine JL_nil ?_
              refine N_then ?_
              refine J_ret ?_
              refine N_mid_ret ?_
              refine N_then_ret ?_
              exact N_ret1 rfl (rv_tmp rfl) (fun w hh => ⟨(), rfl, hh.sel [] rfl⟩)
            · refine J_skip ?_
              exact N_meet' () ⟨rfl, rfl, rfl, rfl, rfl, rfl, rfl, rfl, trivial⟩ [7, 8, 9, 10, 11, 12, 6, 5, 4, 3, 1, 2, 0] rfl rfl
        · refine N_then ?_
          refine J_seq ?_
          refine J_seq ?_
          refine J_draw [] (by kernel_rfl) ?_
          refine JP_take (i := 0) [0, 1, 2, 3, 4, 5, 6, 7, 8, 9, 10, 11, 12] [] rfl (by kernel_rfl) (by kernel_rfl) (by kernel_rfl) rfl rfl (wants_none rfl) rfl (ex_load_bx_agg 7 ti_37 rfl rfl rfl rfl) ?_
          refine JP_take (i := 1) [0, 1, 2, 3, 4, 5, 6, 7, 8, 9, 10, 11, 12] [] rfl (by kernel_rfl) (by kernel_rfl) (by kernel_rfl) rfl rfl (wants_none rfl) rfl (ex_load_bx_agg 1 ti_24 rfl rfl rfl rfl) ?_
          refine JP_go [0, 1, 2, 3, 4, 5, 6, 7, 8, 9, 10, 11, 12] [] rfl rfl rfl (fun w58 h1_59 hp57 => ?_)
          refine JD_bnd fun r60 hr61 => ?_
          refine JD_one (i := 2) (by kernel_rfl) ?_
          refine JO_call rfl (wants_none rfl) rfl Try.call9 rfl (Ca_self (fun _ => rfl) fun w hh => c_laws_toMulti _ w (fun _ hk => hk.elim) _ _ (GMulti.rdmk (Rd.mk_int _ _ _) (Rd.mk_int _ _ _) (Rd.mk_int _ _ _) (hh.rd0 0 rfl)) _ hr61) (fun x62 => ?_)
          obtain ⟨x62_0, x62_1⟩ := x62
          refine JD_bnd fun r63 hr64 => ?_
          refine JD_one (i := 3) (by kernel_rfl) ?_
          refine JO_call rfl (wants_none rfl) rfl Try.call13 rfl (Ca_of0 fun w hh => c_laws_eqMulti _ w (fun _ hk => hk.elim) _ _ (GMulti.rdmk (Rd.mk_int _ _ _) (Rd.mk_int _ _ _) (Rd.mk_int _ _ _) (hh.od0 7 rfl)) _ _ (GMulti.rdmk (Rd.mk_int _ _ _) (Rd.mk_int _ _ _) (Rd.mk_int _ _ _) (hh.od0 0 rfl)) _ hr64) (fun _ => ?_)
          refine JD_take (i := 4) hp57 rfl (by kernel_rfl) (by kernel_rfl) (by kernel_rfl) (wants_none rfl) rfl (ex_not rfl) ?_
          refine JD_done (by kernel_rfl) ?_
          refine N_then ?_
          refine J_if rfl (fun h65 => ?_) (fun h65 => ?_)
          · refine J_seq ?_
            refine J_region ?_
            refine JL_q (wants_none rfl) rfl (ex_assign rfl) ?_
            refine JL_nil ?_
            refine N_then ?_
            refine J_ret ?_
            refine N_then_ret ?_
            exact N_ret1 rfl (rv_tmp rfl) (fun w hh => ⟨(), rfl, hh.sel [] rfl⟩)
          · refine J_skip ?_
            refine N_then ?_
            refine J_seq ?_
            refine J_seq ?_
            refine J_draw [] (by kernel_rfl) ?_
            refine JP_take (i := 0) [0, 1, 2, 3, 4, 5, 6, 7, 8, 9, 10, 11, 12, 13] [] rfl (by kernel_rfl) (by kernel_rfl) (by kernel_rfl) rfl rfl (wants_none rfl) rfl (ex_load_bx_agg 10 ti_32 rfl rfl rfl rfl) ?_
            refine JP_take (i := 1) [0, 1, 2, 3, 4, 5, 6, 7, 8, 9, 10, 11, 12, 13] [] rfl (by kernel_rfl) (by kernel_rfl) (by kernel_rfl) rfl rfl (wants_none rfl) rfl (ex_load_bx_agg 4 ti_27 rfl rfl rfl rfl) ?_
            refine JP_go [0, 1, 2, 3, 4, 5, 6, 7, 8, 9, 10, 11, 12, 13] [] rfl rfl rfl (fun w67 h1_68 hp66 => ?_)
            refine JD_bnd fun r69 hr70 => ?_
            refine JD_one (i := 2) (by kernel_rfl) ?_
            refine JO_call rfl (wants_none rfl) rfl Try.call10 rfl (Ca_self (fun _ => rfl) fun w hh => c_laws_toMultiConfig _ w (fun _ hk => hk.elim) _ _ (GMultiConfig.rdmk (Rd.mk_int _ _ _) (hh.rd0 3 rfl)) _ hr70) (fun x71 => ?_)
            obtain ⟨x71_0, x71_1⟩ := x71
            refine JD_bnd fun r72 hr73 => ?_
            refine JD_one (i := 3) (by kernel_rfl) ?_
            refine JO_call rfl (wants_none rfl) rfl Try.call12 rfl (Ca_of0 fun w hh => c_laws_eqMultiConfig _ w (fun _ hk => hk.elim) _ _ (GMultiConfig.rdmk (Rd.mk_int _ _ _) (hh.od0 10 rfl)) _ _ (GMultiConfig.rdmk (Rd.mk_int _ _ _) (hh.od0 0 rfl)) _ hr73) (fun _ => ?_)
            refine JD_take (i := 4) hp66 rfl (by kernel_rfl) (by kernel_rfl) (by kernel_rfl) (wants_none rfl) rfl (ex_not rfl) ?_
            refine JD_done (by kernel_rfl) ?_
            refine N_then ?_
            refine J_if rfl (fun h74 => ?_) (fun h74 => ?_)
            · refine J_seq ?_
              refine J_region ?_
              refine JL_q (wants_none rfl) rfl (ex_assign rfl) ?_
              refine JL_nil ?_
              refine N_then ?_
              refine J_ret ?_
              refine N_then_ret ?_
              exact N_ret1 rfl (rv_tmp rfl) (fun w hh => ⟨(), rfl, hh.sel [] rfl⟩)
            · refine J_skip ?_
              refine N_then ?_
              refine J_seq ?_
              refine J_region ?_
              refine JL_q (wants_none rfl) rfl (ex_assign rfl) ?_
              refine JL_nil ?_
              refine N_then ?_
              refine J_seq ?_
              refine J_region ?_
              refine JL_q (wants_none rfl) rfl (ex_load_bx_agg 9 ti_37 rfl rfl rfl rfl) ?_
              refine JL_q (wants_none rfl) rfl (ex_move rfl) ?_
              refine JL_inline (wants_none rfl) rfl Try.call14 rfl Try.func14 rfl Try.ntmps14 rfl rfl (fun K_ hK75 => ?_)
              refine J_seq ?_
              refine J_region ?_
              refine JL_st (wants_none rfl) rfl (st_box' rfl (fun w hh => (cv_aggs ⟨cv_int, cv_int, cv_int, (hh.cv_od 8 rfl), trivial⟩))) (fun b76 => ?_)
              refine JL_q (wants_none rfl) rfl (ex_assign rfl) ?_
              refine JL_nil ?_
              refine N_then ?_
              refine J_seq ?_
              refine J_region ?_
              refine JL_q (wants_none rfl) rfl (ex_fieldAddr fi_37_3 rfl rfl) ?_
              refine JL_q (wants_none rfl) rfl (ex_load_bx 0 ti_35 rfl rfl rfl) ?_
              refine JL_q (wants_none rfl) rfl (ex_move rfl) ?_
              refine JL_bnd fun r77 hr78 => ?_
              refine JL_ctx (fun w hh => hh.tok 9 rfl) ?_
              refine JL_mark 0 [1, 2, 3, 5, 7, 8, 9, 11, 12, 13, 15, 16] mk_laws_markMultiRuleS (wants_none rfl) rfl Try.call36 rfl rfl rfl rfl (((SH.start hA).start_rd rfl hp0_0).start_rd rfl hp1_0) rfl hr78 ?_
              refine JL_ctx (fun w hh => hh.tkn_rd 14 rfl) ?_
              refine JL_q (wants_none rfl) rfl (ex_assign rfl) ?_
              refine JL_nil ?_
              refine N_then ?_
              refine J_seq ?_
              refine J_region ?_
              refine JL_q (wants_none rfl) rfl (ex_move rfl) ?_
              refine JL_q (wants_none rfl) rfl (ex_assign rfl) ?_
              refine JL_nil ?_
              refine N_then ?_
              refine J_ret ?_
              refine N_inl1 hK75 rfl (rv_tmp rfl) ?_
              refine JL_q (wants_none rfl) rfl (ex_assign rfl) ?_
              refine JL_nil ?_
              refine N_then ?_
              refine J_seq ?_
              refine J_region ?_
              refine JL_q (wants_none rfl) rfl (ex_load_bx_agg 14 ti_32 rfl rfl rfl rfl) ?_
              refine JL_q (wants_none rfl) rfl (ex_move rfl) ?_
              refine JL_inline (wants_none rfl) rfl Try.call15 rfl Try.func15 rfl Try.ntmps15 rfl rfl (fun K_ hK79 => ?_)
              refine J_seq ?_
              refine J_region ?_
              refine JL_st (wants_none rfl) rfl (st_box' rfl (fun w hh => (cv_aggs ⟨cv_int, (hh.cv_od 13 rfl), trivial⟩))) (fun b80 => ?_)
              refine JL_q (wants_none rfl) rfl (ex_assign rfl) ?_
              refine JL_nil ?_
              refine N_then ?_
              refine J_seq ?_
              refine J_region ?_
              refine JL_q (wants_none rfl) rfl (ex_fieldAddr fi_32_1 rfl rfl) ?_
              refine JL_q (wants_none rfl) rfl (ex_load_bx 0 ti_30 rfl rfl rfl) ?_
              refine JL_q (wants_none rfl) rfl (ex_move rfl) ?_
              refine JL_bnd fun r81 hr82 => ?_
              refine JL_ctx (fun w hh => hh.tok 14 rfl) ?_
              refine JL_mark 0 [1, 4, 7, 8, 9, 10, 11, 12, 13, 14, 16, 17, 18] mk_laws_markTapeS (wants_none rfl) rfl Try.call37 rfl rfl rfl rfl (((SH.start hA).start_rd rfl hp0_0).start_rd rfl hp1_0) rfl hr82 ?_
              refine JL_ctx (fun w hh => hh.tkn_rd 15 rfl) ?_
              refine JL_ctx (fun w hh => hh.tkn_rd 6 rfl) ?_
              refine JL_q (wants_none rfl) rfl (ex_assign rfl) ?_
              refine JL_nil ?_
              refine N_then ?_
              refine J_seq ?_
              refine J_region ?_
              refine JL_q (wants_none rfl) rfl (ex_move rfl) ?_
              refine JL_q (wants_none rfl) rfl (ex_assign rfl) ?_
              refine JL_nil ?_
              refine N_then ?_
              refine J_ret ?_
              refine N_inl1 hK79 rfl (rv_tmp rfl) ?_
              refine JL_q (wants_none rfl) rfl (ex_assign rfl) ?_
              refine JL_nil ?_
              refine N_then ?_
              refine J_seq ?_
              refine J_cut' (S' := Unit) (G' := Unit) (fun _ _ => [(2, .pointer (some ⟨b1, 0, none⟩)), (3, .pointer (some ⟨b2, 0, none⟩)), (6, .pointer (some ⟨g10_2, 0, none⟩)), (7, .int .i64 s9.2.2), (10, .pointer (some ⟨b50, 0, none⟩))]) (fun _ _ => [.rd v0_0 p0.Rules, .bx b1 24 [.int .i64 p0.Tapes, .int .i64 p0.Symbols, .int .i64 p0.States, v0_0], .rd v1_0 p1.Tapes, .bx b2 27 [.int .i64 p1.State, v1_0], .od 91 g10_0 s9.2.1 g10_1, .bx g10_2 32 [.int .i64 s9.1, g10_0], .rd x49_0 r47.1.Tapes, .tkn x49_0 r47.1.Tapes x49_1, .bx b50 32 [.int .i64 r47.1.State, x49_0]]) ?_ (fun s83 g84 => ?_)
              · refine J_seq ?_
                refine J_region ?_
                refine JL_q (wants_none rfl) rfl (ex_move rfl) ?_
                refine JL_q (wants_none rfl) rfl (ex_lss rfl rfl) ?_
                refine JL_q (wants_none rfl) rfl (ex_move rfl) ?_
                refine JL_cond (fun h85 => ?_) (fun h85 => ?_)
                · refine JL_passed rfl rfl rfl h85 ?_
                  refine JL_passed rfl rfl rfl h85 ?_
                  refine JL_passed rfl rfl rfl h85 ?_
                  refine JL_passed rfl rfl rfl h85 ?_
                  refine JL_q (wants_none rfl) rfl (ex_pick_true rfl h85 rfl) ?_
                  refine JL_q (wants_none rfl) rfl (ex_move rfl) ?_
                  refine JL_passed rfl rfl rfl rfl ?_
                  refine JL_passed rfl rfl rfl rfl ?_
                  refine JL_passed rfl rfl rfl rfl ?_
                  refine JL_q (wants_none rfl) rfl (ex_pick_true rfl rfl rfl) ?_
                  refine JL_nil ?_
                  refine N_then ?_
                  refine J_if_true rfl rfl ?_
                  refine J_seq ?_
                  refine J_region ?_
                  refine JL_q (wants_none rfl) rfl (ex_assign rfl) ?_
                  refine JL_nil ?_
                  refine N_then ?_
                  refine J_ret ?_
                  refine N_mid_ret ?_
                  refine N_then_ret ?_
                  exact N_ret1 rfl (rv_tmp rfl) (fun w hh => ⟨(), rfl, hh.sel [] rfl⟩)
                · refine JL_q (wants_some rfl rfl rfl h85) rfl (ex_load_bx_agg 18 ti_32 rfl rfl rfl rfl) ?_
                  refine JL_q (wants_some rfl rfl rfl h85) rfl (ex_load_bx_agg 14 ti_32 rfl rfl rfl rfl) ?_
                  refine JL_bnd fun r86 hr87 => ?_
                  refine JL_call (wants_some rfl rfl rfl h85) rfl Try.call12 rfl (Ca_of0 fun w hh => c_laws_eqMultiConfig _ w (fun _ hk => hk.elim) _ _ (GMultiConfig.rdmk (Rd.mk_int _ _ _) (hh.rd0 1 rfl)) _ _ (GMultiConfig.rdmk (Rd.mk_int _ _ _) (hh.od0 13 rfl)) _ hr87) (fun _ => ?_)
                  refine JL_q (wants_some rfl rfl rfl h85) rfl (ex_not rfl) ?_
                  refine JL_q (wants_none rfl) rfl (ex_pick_false rfl h85 rfl) ?_
                  refine JL_q (wants_none rfl) rfl (ex_move rfl) ?_
                  refine JL_cond (fun h88 => ?_) (fun h88 => ?_)
                  · refine JL_passed rfl rfl rfl h88 ?_
                    refine JL_passed rfl rfl rfl h88 ?_
                    refine JL_passed rfl rfl rfl h88 ?_
                    refine JL_q (wants_none rfl) rfl (ex_pick_true rfl h88 rfl) ?_
                    refine JL_nil ?_
                    refine N_then ?_
                    refine J_if_true rfl rfl ?_
                    refine J_seq ?_
                    refine J_region ?_
                    refine JL_q (wants_none rfl) rfl (ex_assign rfl) ?_
                    refine JL_nil ?_
                    refine N_then ?_
                    refine J_ret ?_
                    refine N_mid_ret ?_
                    refine N_then_ret ?_
                    exact N_ret1 rfl (rv_tmp rfl) (fun w hh => ⟨(), rfl, hh.sel [] rfl⟩)
                  · refine JL_q (wants_some rfl rfl rfl h88) rfl (ex_move rfl) ?_
                    refine JL_q (wants_some rfl rfl rfl h88) rfl (ex_move rfl) ?_
                    refine JL_q (wants_some rfl rfl rfl h88) rfl (ex_neq rfl rfl) ?_
                    refine JL_q (wants_none rfl) rfl (ex_pick_false rfl h88 rfl) ?_
                    refine JL_nil ?_
                    refine N_then ?_
                    refine J_if rfl (fun h89 => ?_) (fun h89 => ?_)
                    · refine J_seq ?_
                      refine J_region ?_
                      refine JL_q (wants_none rfl) rfl (ex_assign rfl) ?_
                      refine JL_nil ?_
                      refine N_then ?_
                      refine J_ret ?_
                      refine N_mid_ret ?_
                      refine N_then_ret ?_
                      exact N_ret1 rfl (rv_tmp rfl) (fun w hh => ⟨(), rfl, hh.sel [] rfl⟩)
                    · refine J_skip ?_
                      exact N_meet' () ⟨rfl, rfl, rfl, rfl, rfl, trivial⟩ [5, 11, 4, 12, 13, 14, 1, 17, 18] rfl rfl
              · refine N_then ?_
                refine J_seq ?_
                refine J_region ?_
                refine JL_q (wants_none rfl) rfl (ex_assign rfl) ?_
                refine JL_nil ?_
                refine N_then ?_
                refine J_seq ?_
                refine J_region ?_
                refine JL_q (wants_none rfl) rfl (ex_load_bx_agg 8 ti_32 rfl rfl rfl rfl) ?_
                refine JL_q (wants_none rfl) rfl (ex_move rfl) ?_
                refine JL_inline (wants_none rfl) rfl Try.call15 rfl Try.func15 rfl Try.ntmps15 rfl rfl (fun K_ hK90 => ?_)
                refine J_seq ?_
                refine J_region ?_
                refine JL_st (wants_none rfl) rfl (st_box' rfl (fun w hh => (cv_aggs ⟨cv_int, (hh.cv 6 rfl), trivial⟩))) (fun b91 => ?_)
                refine JL_q (wants_none rfl) rfl (ex_assign rfl) ?_
                refine JL_nil ?_
                refine N_then ?_
                refine J_seq ?_
                refine J_region ?_
                refine JL_q (wants_none rfl) rfl (ex_fieldAddr fi_32_1 rfl rfl) ?_
                refine JL_q (wants_none rfl) rfl (ex_load_bx 0 ti_30 rfl rfl rfl) ?_
                refine JL_q (wants_none rfl) rfl (ex_move rfl) ?_
                refine JL_bnd fun r92 hr93 => ?_
                refine JL_mark 8 [0, 2, 4, 5, 6, 9] mk_laws_markTapeS (wants_none rfl) rfl Try.call37 rfl rfl rfl rfl (((SH.start hA).start_rd rfl hp0_0).start_rd rfl hp1_0) rfl hr93 ?_
                refine JL_q (wants_none rfl) rfl (ex_assign rfl) ?_
                refine JL_nil ?_
                refine N_then ?_
                refine J_seq ?_
                refine J_region ?_
                refine JL_q (wants_none rfl) rfl (ex_move rfl) ?_
                refine JL_q (wants_none rfl) rfl (ex_assign rfl) ?_
                refine JL_nil ?_
                refine N_then ?_
                refine J_ret ?_
                refine N_inl1 hK90 rfl (rv_tmp rfl) ?_
                refine JL_q (wants_none rfl) rfl (ex_assign rfl) ?_
                refine JL_nil ?_
                refine N_then ?_
                refine J_seq ?_
                refine J_region ?_
                refine JL_q (wants_none rfl) rfl (ex_assign rfl) ?_
                refine JL_nil ?_
                refine N_then ?_
                refine J_seq ?_
                refine J_region ?_
                refine JL_q (wants_none rfl) rfl (ex_load_bx_agg 9 ti_32 rfl rfl rfl rfl) ?_
                refine JL_q (wants_none rfl) rfl (ex_move rfl) ?_
                refine JL_bnd fun r94 hr95 => ?_
                refine JL_call (wants_none rfl) rfl Try.call16 rfl (Ca_of0 fun w hh => c_laws_heldMultiConfig _ w (fun _ hk => hk.elim) _ _ (GMultiConfig.rdmk (Rd.mk_int _ _ _) (hh.rd0 0 rfl)) _ _ hr95) (fun _ => ?_)
                refine JL_q (wants_none rfl) rfl (ex_assign rfl) ?_
                refine JL_nil ?_
                refine N_then ?_
                refine J_seq ?_
                refine J_seq ?_
                refine J_region ?_
                refine JL_q (wants_none rfl) rfl (ex_move rfl) ?_
                refine JL_q (wants_none rfl) rfl (ex_lss rfl rfl) ?_
                refine JL_nil ?_
                refine N_then ?_
                refine J_if rfl (fun h96 => ?_) (fun h96 => ?_)
                · refine J_seq ?_
                  refine J_region ?_
                  refine JL_q (wants_none rfl) rfl (ex_assign rfl) ?_
                  refine JL_nil ?_
                  refine N_then ?_
                  refine J_ret ?_
                  refine N_then_ret ?_
                  exact N_ret1 rfl (rv_tmp rfl) (fun w hh => ⟨(), rfl, hh.sel [] rfl⟩)
                · refine J_skip ?_
                  refine N_then ?_
                  refine J_seq ?_
                  refine J_seq ?_
                  refine J_region ?_
                  refine JL_q (wants_none rfl) rfl (ex_move rfl) ?_
                  refine JL_q (wants_none rfl) rfl (ex_move rfl) ?_
                  refine JL_q (wants_none rfl) rfl (ex_neq rfl rfl) ?_
                  refine JL_nil ?_
                  refine N_then ?_
                  refine J_if rfl (fun h97 => ?_) (fun h97 => ?_)
                  · refine J_seq ?_
                    refine J_region ?_
                    refine JL_q (wants_none rfl) rfl (ex_assign rfl) ?_
                    refine JL_nil ?_
                    refine N_then ?_
                    refine J_ret ?_
                    refine N_then_ret ?_
                    exact N_ret1 rfl (rv_tmp rfl) (fun w hh => ⟨(), rfl, hh.sel [] rfl⟩)
                  · refine J_skip ?_
                    refine N_then ?_
                    refine J_seq ?_
                    refine J_cut' (S' := Int × (List GTape) × Int) (G' := Value × List Nat × Nat) (fun s98 g99 => [(6, .pointer (some ⟨g10_2, 0, none⟩)), (7, .int .i64 s9.2.2), (10, .pointer (some ⟨b50, 0, none⟩)), (13, .int .i64 r92.1), (15, .pointer (some ⟨g99.2.2, 0, none⟩)), (16, .int .i64 s98.2.2)]) (fun s98 g99 => [.od 91 g10_0 s9.2.1 g10_1, .bx g10_2 32 [.int .i64 s9.1, g10_0], .rd x49_0 r92.2, .tkn x49_0 r92.2 x49_1, .bx b50 32 [.int .i64 r47.1.State, x49_0], .rd g99.1 s98.2.1, .tkn g99.1 s98.2.1 g99.2.1, .bx g99.2.2 32 [.int .i64 s98.1, g99.1]]) ?_ (fun s98 g99 => ?_)
                    · refine J_draw [] (by kernel_rfl) ?_
                      refine JP_take (i := 0) [0, 1, 2, 3, 4, 5, 6, 7, 8, 9] [] rfl (by kernel_rfl) (by kernel_rfl) (by kernel_rfl) rfl rfl (wants_none rfl) rfl (ex_load_bx_agg 5 ti_24 rfl rfl rfl rfl) ?_
                      refine JP_take (i := 2) [0, 1, 2, 3, 4, 5, 6, 7, 8, 9] [] rfl (by kernel_rfl) (by kernel_rfl) (by kernel_rfl) rfl rfl (wants_none rfl) rfl (ex_load_bx_agg 6 ti_27 rfl rfl rfl rfl) ?_
                      refine JP_go [0, 1, 2, 3, 4, 5, 6, 7, 8, 9] [] rfl rfl rfl (fun w101 h1_102 hp100 => ?_)
                      refine JD_bnd fun r103 hr104 => ?_
                      refine JD_two (i := 1) (j := 8) (by kernel_rfl) ?_ ?_
                      · refine JO_call rfl (wants_none rfl) rfl Try.call9 rfl (Ca_self (fun _ => rfl) fun w hh => c_laws_toMulti _ w (fun _ hk => hk.elim) _ _ (GMulti.rdmk (Rd.mk_int _ _ _) (Rd.mk_int _ _ _) (Rd.mk_int _ _ _) (hh.rd0 3 rfl)) _ hr104) (fun x105 => ?_)
                        obtain ⟨x105_0, x105_1⟩ := x105
                        refine JD_bnd fun r106 hr107 => ?_
                        refine JD_two (i := 3) (j := 8) (by kernel_rfl) ?_ ?_
                        · refine JO_call rfl (wants_none rfl) rfl Try.call10 rfl (Ca_self (fun _ => rfl) fun w hh => c_laws_toMultiConfig _ w (fun _ hk => hk.elim) _ _ (GMultiConfig.rdmk (Rd.mk_int _ _ _) (hh.rd0 3 rfl)) _ hr107) (fun x108 => ?_)
                          obtain ⟨x108_0, x108_1⟩ := x108
                          refine JD_bnd fun r109 hr110 => ?_
                          refine JD_two (i := 4) (j := 8) (by kernel_rfl) ?_ ?_
                          · refine JO_call rfl (wants_none rfl) rfl Try.call11 rfl (Ca_self (fun _ => rfl) fun w hh => c_impl_StepMulti _ w (fun _ hk => hk.elim) _ _ (GMulti.rdmk (Rd.mk_int _ _ _) (Rd.mk_int _ _ _) (Rd.mk_int _ _ _) (hh.od0 1 rfl)) _ _ (GMultiConfig.rdmk (Rd.mk_int _ _ _) (hh.od0 0 rfl)) _ hr110) (fun x111 => ?_)
                            obtain ⟨x111_0, x111_1⟩ := x111
                            refine JD_ctx (fun w hh => hh.tkn_rd 0 rfl) (fun _ hb => hb) ?_
                            refine JD_take (i := 5) hp100 rfl (by kernel_rfl) (by kernel_rfl) (by kernel_rfl) (wants_none rfl) rfl (ex_move rfl) ?_
                            refine JD_take (i := 6) hp100 rfl (by kernel_rfl) (by kernel_rfl) (by kernel_rfl) (wants_none rfl) rfl (ex_extract rfl rfl) ?_
                            refine JD_take (i := 7) hp100 rfl (by kernel_rfl) (by kernel_rfl) (by kernel_rfl) (wants_none rfl) rfl (ex_extract rfl rfl) ?_
                            refine JD_one (i := 8) (by kernel_rfl) ?_
                            refine JO_st rfl (wants_none rfl) rfl (st_alloc zi_32 rfl) (fun _ hk => nomatch hk) (fun b112 => ?_)
                            refine JD_one (i := 9) (by kernel_rfl) ?_
                            refine JO_sk2 0 [] [0, 1, 2, 3, 4, 5, 6, 7, 8, 9] [5, 6, 7, 8, 9, 10, 11, 12, 13, 14] rfl rfl rfl rfl rfl rfl (wants_none rfl) (sk_store_bx' 0 ti_32 rfl rfl (fun w hh => (cv_aggs ⟨cv_int, (hh.cv 1 rfl), trivial⟩)) rfl rfl rfl rfl) (fun _ hk => hk) ?_
                            refine JD_take (i := 10) hp100 rfl (by kernel_rfl) (by kernel_rfl) (by kernel_rfl) (wants_none rfl) rfl (ex_assign rfl) ?_
                            refine JD_done (by kernel_rfl) ?_
                            exact N_meet' (x111_0, x111_1, b112) ⟨rfl, rfl, rfl, rfl, rfl, rfl, trivial⟩ [12, 13, 5, 6, 14, 1, 2, 0] rfl rfl
                          · refine JO_st rfl (wants_none rfl) rfl (st_alloc zi_32 rfl) (fun _ hk => nomatch hk) (fun b113 => ?_)
                            refine JD_one (i := 4) (by kernel_rfl) ?_
                            refine JO_call rfl (wants_none rfl) rfl Try.call11 rfl (Ca_self (fun _ => rfl) fun w hh => c_impl_StepMulti _ w (fun _ hk => hk.elim) _ _ (GMulti.rdmk (Rd.mk_int _ _ _) (Rd.mk_int _ _ _) (Rd.mk_int _ _ _) (hh.od0 2 rfl)) _ _ (GMultiConfig.rdmk (Rd.mk_int _ _ _) (hh.od0 1 rfl)) _ hr110) (fun x114 => ?_)
                            obtain ⟨x114_0, x114_1⟩ := x114
                            refine JD_ctx (fun w hh => hh.tkn_rd 0 rfl) (fun _ hb => hb) ?_
                            refine JD_take (i := 5) hp100 rfl (by kernel_rfl) (by kernel_rfl) (by kernel_rfl) (wants_none rfl) rfl (ex_move rfl) ?_
                            refine JD_take (i := 6) hp100 rfl (by kernel_rfl) (by kernel_rfl) (by kernel_rfl) (wants_none rfl) rfl (ex_extract rfl rfl) ?_
                            refine JD_take (i := 7) hp100 rfl (by kernel_rfl) (by kernel_rfl) (by kernel_rfl) (wants_none rfl) rfl (ex_extract rfl rfl) ?_
                            refine JD_one (i := 9) (by kernel_rfl) ?_
                            refine JO_sk2 2 [] [0, 1, 2, 3, 4, 5, 6, 7, 8, 9] [5, 6, 7, 8, 9, 10, 11, 12, 13, 14] rfl rfl rfl rfl rfl rfl (wants_none rfl) (sk_store_bx' 2 ti_32 rfl rfl (fun w hh => (cv_aggs ⟨cv_int, (hh.cv 0 rfl), trivial⟩)) rfl rfl rfl rfl) (fun _ hk => hk) ?_
                            refine JD_take (i := 10) hp100 rfl (by kernel_rfl) (by kernel_rfl) (by kernel_rfl) (wants_none rfl) rfl (ex_assign rfl) ?_
                            refine JD_done (by kernel_rfl) ?_
                            exact N_meet' (x114_0, x114_1, b113) ⟨rfl, rfl, rfl, rfl, rfl, rfl, trivial⟩ [12, 13, 5, 6, 14, 0, 1, 2] rfl rfl
                        · refine JO_st rfl (wants_none rfl) rfl (st_alloc zi_32 rfl) (fun _ hk => nomatch hk) (fun b115 => ?_)
                          refine JD_one (i := 3) (by kernel_rfl) ?_
                          refine JO_call rfl (wants_none rfl) rfl Try.call10 rfl (Ca_self (fun _ => rfl) fun w hh => c_laws_toMultiConfig _ w (fun _ hk => hk.elim) _ _ (GMultiConfig.rdmk (Rd.mk_int _ _ _) (hh.rd0 4 rfl)) _ hr107) (fun x116 => ?_)
                          obtain ⟨x116_0, x116_1⟩ := x116
                          refine JD_bnd fun r117 hr118 => ?_
                          refine JD_one (i := 4) (by kernel_rfl) ?_
                          refine JO_call rfl (wants_none rfl) rfl Try.call11 rfl (Ca_self (fun _ => rfl) fun w hh => c_impl_StepMulti _ w (fun _ hk => hk.elim) _ _ (GMulti.rdmk (Rd.mk_int _ _ _) (Rd.mk_int _ _ _) (Rd.mk_int _ _ _) (hh.od0 2 rfl)) _ _ (GMultiConfig.rdmk (Rd.mk_int _ _ _) (hh.od0 0 rfl)) _ hr118) (fun x119 => ?_)
                          obtain ⟨x119_0, x119_1⟩ := x119
                          refine JD_ctx (fun w hh => hh.tkn_rd 0 rfl) (fun _ hb => hb) ?_
                          refine JD_take (i := 5) hp100 rfl (by kernel_rfl) (by kernel_rfl) (by kernel_rfl) (wants_none rfl) rfl (ex_move rfl) ?_
                          refine JD_take (i := 6) hp100 rfl (by kernel_rfl) (by kernel_rfl) (by kernel_rfl) (wants_none rfl) rfl (ex_extract rfl rfl) ?_
                          refine JD_take (i := 7) hp100 rfl (by kernel_rfl) (by kernel_rfl) (by kernel_rfl) (wants_none rfl) rfl (ex_extract rfl rfl) ?_
                          refine JD_one (i := 9) (by kernel_rfl) ?_
                          refine JO_sk2 3 [] [0, 1, 2, 3, 4, 5, 6, 7, 8, 9] [5, 6, 7, 8, 9, 10, 11, 12, 13, 14] rfl rfl rfl rfl rfl rfl (wants_none rfl) (sk_store_bx' 3 ti_32 rfl rfl (fun w hh => (cv_aggs ⟨cv_int, (hh.cv 0 rfl), trivial⟩)) rfl rfl rfl rfl) (fun _ hk => hk) ?_
                          refine JD_take (i := 10) hp100 rfl (by kernel_rfl) (by kernel_rfl) (by kernel_rfl) (wants_none rfl) rfl (ex_assign rfl) ?_
                          refine JD_done (by kernel_rfl) ?_
                          exact N_meet' (x119_0, x119_1, b115) ⟨rfl, rfl, rfl, rfl, rfl, rfl, trivial⟩ [12, 13, 5, 6, 14, 0, 1, 3] rfl rfl
                      · refine JO_st rfl (wants_none rfl) rfl (st_alloc zi_32 rfl) (fun _ hk => nomatch hk) (fun b120 => ?_)
                        refine JD_one (i := 1) (by kernel_rfl) ?_
                        refine JO_call rfl (wants_none rfl) rfl Try.call9 rfl (Ca_self (fun _ => rfl) fun w hh => c_laws_toMulti _ w (fun _ hk => hk.elim) _ _ (GMulti.rdmk (Rd.mk_int _ _ _) (Rd.mk_int _ _ _) (Rd.mk_int _ _ _) (hh.rd0 4 rfl)) _ hr104) (fun x121 => ?_)
                        obtain ⟨x121_0, x121_1⟩ := x121
                        refine JD_bnd fun r122 hr123 => ?_
                        refine JD_one (i := 3) (by kernel_rfl) ?_
                        refine JO_call rfl (wants_none rfl) rfl Try.call10 rfl (Ca_self (fun _ => rfl) fun w hh => c_laws_toMultiConfig _ w (fun _ hk => hk.elim) _ _ (GMultiConfig.rdmk (Rd.mk_int _ _ _) (hh.rd0 4 rfl)) _ hr123) (fun x124 => ?_)
                        obtain ⟨x124_0, x124_1⟩ := x124
                        refine JD_bnd fun r125 hr126 => ?_
                        refine JD_one (i := 4) (by kernel_rfl) ?_
                        refine JO_call rfl (wants_none rfl) rfl Try.call11 rfl (Ca_self (fun _ => rfl) fun w hh => c_impl_StepMulti _ w (fun _ hk => hk.elim) _ _ (GMulti.rdmk (Rd.mk_int _ _ _) (Rd.mk_int _ _ _) (Rd.mk_int _ _ _) (hh.od0 1 rfl)) _ _ (GMultiConfig.rdmk (Rd.mk_int _ _ _) (hh.od0 0 rfl)) _ hr126) (fun x127 => ?_)
                        obtain ⟨x127_0, x127_1⟩ := x127
                        refine JD_ctx (fun w hh => hh.tkn_rd 0 rfl) (fun _ hb => hb) ?_
                        refine JD_take (i := 5) hp100 rfl (by kernel_rfl) (by kernel_rfl) (by kernel_rfl) (wants_none rfl) rfl (ex_move rfl) ?_
                        refine JD_take (i := 6) hp100 rfl (by kernel_rfl) (by kernel_rfl) (by kernel_rfl) (wants_none rfl) rfl (ex_extract rfl rfl) ?_
                        refine JD_take (i := 7) hp100 rfl (by kernel_rfl) (by kernel_rfl) (by kernel_rfl) (wants_none rfl) rfl (ex_extract rfl rfl) ?_
                        refine JD_one (i := 9) (by kernel_rfl) ?_
                        refine JO_sk2 4 [] [0, 1, 2, 3, 4, 5, 6, 7, 8, 9] [5, 6, 7, 8, 9, 10, 11, 12, 13, 14] rfl rfl rfl rfl rfl rfl (wants_none rfl) (sk_store_bx' 4 ti_32 rfl rfl (fun w hh => (cv_aggs ⟨cv_int, (hh.cv 0 rfl), trivial⟩)) rfl rfl rfl rfl) (fun _ hk => hk) ?_
                        refine JD_take (i := 10) hp100 rfl (by kernel_rfl) (by kernel_rfl) (by kernel_rfl) (wants_none rfl) rfl (ex_assign rfl) ?_
                        refine JD_done (by kernel_rfl) ?_
                        exact N_meet' (x127_0, x127_1, b120) ⟨rfl, rfl, rfl, rfl, rfl, rfl, trivial⟩ [12, 13, 5, 6, 14, 0, 1, 4] rfl rfl
                    · obtain ⟨g99_0, g99_1, g99_2⟩ := g99
                      refine N_then ?_
                      refine J_seq ?_
                      refine J_seq ?_
                      refine J_region ?_
                      refine JL_q (wants_none rfl) rfl (ex_load_bx_agg 7 ti_32 rfl rfl rfl rfl) ?_
                      refine JL_q (wants_none rfl) rfl (ex_load_bx_agg 1 ti_32 rfl rfl rfl rfl) ?_
                      refine JL_bnd fun r128 hr129 => ?_
                      refine JL_call (wants_none rfl) rfl Try.call12 rfl (Ca_of0 fun w hh => c_laws_eqMultiConfig _ w (fun _ hk => hk.elim) _ _ (GMultiConfig.rdmk (Rd.mk_int _ _ _) (hh.rd0 5 rfl)) _ _ (GMultiConfig.rdmk (Rd.mk_int _ _ _) (hh.od0 0 rfl)) _ hr129) (fun _ => ?_)
                      refine JL_q (wants_none rfl) rfl (ex_not rfl) ?_
                      refine JL_q (wants_none rfl) rfl (ex_move rfl) ?_
                      refine JL_cond (fun h130 => ?_) (fun h130 => ?_)
                      · refine JL_passed rfl rfl rfl h130 ?_
                        refine JL_passed rfl rfl rfl h130 ?_
                        refine JL_passed rfl rfl rfl h130 ?_
                        refine JL_q (wants_none rfl) rfl (ex_pick_true rfl h130 rfl) ?_
                        refine JL_nil ?_
                        refine N_then ?_
                        refine J_if_true rfl rfl ?_
                        refine J_seq ?_
                        refine J_region ?_
                        refine JL_q (wants_none rfl) rfl (ex_assign rfl) ?_
                        refine JL_nil ?_
                        refine N_then ?_
                        refine J_ret ?_
                        refine N_then_ret ?_
                        exact N_ret1 rfl (rv_tmp rfl) (fun w hh => ⟨(), rfl, hh.sel [] rfl⟩)
                      · refine JL_q (wants_some rfl rfl rfl h130) rfl (ex_move rfl) ?_
                        refine JL_q (wants_some rfl rfl rfl h130) rfl (ex_move rfl) ?_
                        refine JL_q (wants_some rfl rfl rfl h130) rfl (ex_neq rfl rfl) ?_
                        refine JL_q (wants_none rfl) rfl (ex_pick_false rfl h130 rfl) ?_
                        refine JL_nil ?_
                        refine N_then ?_
                        refine J_if rfl (fun h131 => ?_) (fun h131 => ?_)
                        · refine J_seq ?_
                          refine J_region ?_
                          refine JL_q (wants_none rfl) rfl (ex_assign rfl) ?_
                          refine JL_nil ?_
                          refine N_then ?_
                          refine J_ret ?_
                          refine N_then_ret ?_
                          exact N_ret1 rfl (rv_tmp rfl) (fun w hh => ⟨(), rfl, hh.sel [] rfl⟩)
                        · refine J_skip ?_
                          refine N_then ?_
                          refine J_seq ?_
                          refine J_region ?_
                          refine JL_q (wants_none rfl) rfl (ex_assign rfl) ?_
                          refine JL_nil ?_
                          refine N_then ?_
                          refine J_seq ?_
                          refine J_region ?_
                          refine JL_q (wants_none rfl) rfl (ex_load_bx_agg 4 ti_32 rfl rfl rfl rfl) ?_
                          refine JL_q (wants_none rfl) rfl (ex_move rfl) ?_
                          refine JL_bnd fun r132 hr133 => ?_
                          refine JL_call (wants_none rfl) rfl Try.call16 rfl (Ca_of0 fun w hh => c_laws_heldMultiConfig _ w (fun _ hk => hk.elim) _ _ (GMultiConfig.rdmk (Rd.mk_int _ _ _) (hh.rd0 2 rfl)) _ _ hr133) (fun _ => ?_)
                          refine JL_q (wants_none rfl) rfl (ex_assign rfl) ?_
                          refine JL_nil ?_
                          refine N_then ?_
                          refine J_seq ?_
                          refine J_seq ?_
                          refine J_region ?_
                          refine JL_q (wants_none rfl) rfl (ex_move rfl) ?_
                          refine JL_q (wants_none rfl) rfl (ex_lss rfl rfl) ?_
                          refine JL_nil ?_
                          refine N_then ?_
                          refine J_if rfl (fun h134 => ?_) (fun h134 => ?_)
                          · refine J_seq ?_
                            refine J_region ?_
                            refine JL_q (wants_none rfl) rfl (ex_assign rfl) ?_
                            refine JL_nil ?_
                            refine N_then ?_
                            refine J_ret ?_
                            refine N_then_ret ?_
                            exact N_ret1 rfl (rv_tmp rfl) (fun w hh => ⟨(), rfl, hh.sel [] rfl⟩)
                          · refine J_skip ?_
                            refine N_then ?_
                            refine J_seq ?_
                            refine J_seq ?_
                            refine J_region ?_
                            refine JL_q (wants_none rfl) rfl (ex_move rfl) ?_
                            refine JL_q (wants_none rfl) rfl (ex_move rfl) ?_
                            refine JL_q (wants_none rfl) rfl (ex_neq rfl rfl) ?_
                            refine JL_nil ?_
                            refine N_then ?_
                            refine J_if rfl (fun h135 => ?_) (fun h135 => ?_)
                            · refine J_seq ?_
                              refine J_region ?_
                              refine JL_q (wants_none rfl) rfl (ex_assign rfl) ?_
                              refine JL_nil ?_
                              refine N_then ?_
                              refine J_ret ?_
                              refine N_then_ret ?_
                              exact N_ret1 rfl (rv_tmp rfl) (fun w hh => ⟨(), rfl, hh.sel [] rfl⟩)
                            · refine J_skip ?_
                              refine N_then ?_
                              refine J_seq ?_
                              refine J_region ?_
                              refine JL_q (wants_none rfl) rfl (ex_assign rfl) ?_
                              refine JL_nil ?_
                              refine N_then ?_
                              refine J_ret ?_
                              exact N_ret1 rfl (rv_tmp rfl) (fun w hh => ⟨(), rfl, hh.sel [] rfl⟩)

end Go.Proofs.Ytomiabeodgcmcaa
