/-
  Each function of the program computes what its plain function says: printed by program. No condition.
-/
import Derived.Test.YtomiabeodgcmcaaFn
import Derived.Test.YtomiabeodgcmcaaInf
import Derived.Test.YtomiabeodgcmcaaCon1
import Derived.Test.YtomiabeodgcmcaaCon2
import Derived.Test.YtomiabeodgcmcaaCon3
import Derived.Test.YtomiabeodgcmcaaCon4
import Derived.Test.YtomiabeodgcmcaaCon5
namespace Go.Proofs.Ytomiabeodgcmcaa
open Go Go.Tc Go.Fn
set_option linter.unusedVariables false

set_option maxHeartbeats 40000000 in
theorem c_spec_l06Run (A : Nat → Prop) (w : World) (hA : ∀ k, A k → k < w.heap.size) (v0_ : Value) (p0 : GMulti) (hp0 : RdA A w.heap.size w v0_ p0) (v1_ : Value) (p1 : GMultiConfig) (hp1 : RdA A w.heap.size w v1_ p1) (p2 : Int) (r : GMultiConfig × Int × Bool × Int) (hr : F_spec_l06Run p0 p1 p2 = some r) :
    Con Try.prog 40 [v0_, v1_, .int .i64 p2] A w (fun x_ : Value × List Nat => .tuple #[.agg #[.int .i64 r.1.State, x_.1], .int .i64 r.2.1, .bool r.2.2.1, .int .i64 r.2.2.2]) (fun x_ => [.od 91 x_.1 r.1.Tapes x_.2]) := by
  refine Con_of (v := fun (r : GMultiConfig × Int × Bool × Int) (x_ : Value × List Nat) => .tuple #[.agg #[.int .i64 r.1.State, x_.1], .int .i64 r.2.1, .bool r.2.2.1, .int .i64 r.2.2.2]) (fs := fun r x_ => [.od 91 x_.1 r.1.Tapes x_.2]) Try.func40 rfl Try.ntmps40 rfl (((SH.start hA).start_pa' rfl hp0).start_pa' rfl hp1) rfl ?_ hr
  unfold F_spec_l06Run
  refine J_seq ?_
  refine J_region ?_
  refine JL_st (wants_none rfl) rfl (st_alloc zi_32 rfl) (fun b1 => ?_)
  refine JL_q (wants_none rfl) rfl (ex_assign rfl) ?_
  refine JL_q (wants_none rfl) rfl (ex_assign rfl) ?_
  refine JL_q (wants_none rfl) rfl (ex_assign rfl) ?_
  refine JL_nil ?_
  refine N_then ?_
  refine J_seq ?_
  refine J_region ?_
  refine JL_q (wants_none rfl) rfl (ex_move rfl) ?_
  refine JL_bnd fun r2 hr3 => ?_
  refine JL_call (wants_none rfl) rfl Try.call45 rfl (Ca_self (fun _ => rfl) fun w hh => c_spec_l06Own _ w (fun _ hk => hk.elim) _ _ (hh.pa0 1 rfl) _ hr3) (fun x4 => ?_)
  obtain ⟨x4_0, x4_1⟩ := x4
  refine JL_st (wants_none rfl) rfl (st_alloc zi_32 rfl) (fun b5 => ?_)
  refine JL_sk (wants_none rfl) (sk_store_bx' 0 ti_32 rfl rfl (fun w hh => (cv_aggs ⟨cv_int, (hh.cv_od 1 rfl), trivial⟩)) rfl rfl rfl rfl) ?_
  refine JL_nil ?_
  refine N_then ?_
  refine J_seq ?_
  refine J_region ?_
  refine JL_q (wants_none rfl) rfl (ex_assign rfl) ?_
  refine JL_nil ?_
  refine N_then ?_
  refine J_loop' (S := Int × (List GTape) × Int) (G := Value × List Nat) (F_spec_l06Run_L1 p0 p2) (fun s6 g7 => [(0, v0_), (2, .int .i64 p2), (6, .pointer (some ⟨b1, 0, none⟩)), (10, .pointer (some ⟨b5, 0, none⟩)), (11, .int .i64 s6.2.2)]) (fun s6 g7 => [.pa v0_ p0, .bx b1 32 [.int .i64 0, .slice none 0 0], .od 91 g7.1 s6.2.1 g7.2, .bx b5 32 [.int .i64 s6.1, g7.1]]) (r2.State, r2.Tapes, 0) (x4_0, x4_1) ⟨rfl, rfl, rfl, rfl, rfl, trivial⟩ [4, 2, 1, 0] rfl rfl (fun s6 g7 => ?_) (fun s6 g7 => ?_)
  · obtain ⟨g7_0, g7_1⟩ := g7
    unfold F_spec_l06Run_L1
    refine J_seq ?_
    refine J_block ?_
    refine J_seq ?_
    refine J_seq ?_
    refine J_region ?_
    refine JL_q (wants_none rfl) rfl (ex_move rfl) ?_
    refine JL_bnd fun r8 hr9 => ?_
    refine JL_call (wants_none rfl) rfl Try.call46 rfl (Ca_of0 fun w hh => c_spec_l06Rule _ w (fun _ hk => hk.elim) _ _ (hh.pa0 0 rfl) _ _ (hh.bx_pa 3 rfl (GMultiConfig.rdmk (Rd.mk_int _ _ _) (hh.od0 2 rfl)) rfl) _ hr9) (fun _ => ?_)
    refine JL_q (wants_none rfl) rfl (ex_lss rfl rfl) ?_
    refine JL_nil ?_
    refine N_then ?_
    refine J_if rfl (fun h10 => ?_) (fun h10 => ?_)
    · refine J_seq ?_
      refine J_region ?_
      refine JL_q (wants_none rfl) rfl (ex_load_bx_agg 3 ti_32 rfl rfl rfl rfl) ?_
      refine JL_q (wants_none rfl) rfl (ex_move rfl) ?_
      refine JL_sk (wants_none rfl) (sk_store_bx' 1 ti_32 rfl rfl (fun w hh => (cv_aggs ⟨cv_int, (hh.cv_od 2 rfl), trivial⟩)) rfl rfl rfl rfl) ?_
      refine JL_q (wants_none rfl) rfl (ex_assign rfl) ?_
      refine JL_q (wants_none rfl) rfl (ex_assign rfl) ?_
      refine JL_q (wants_none rfl) rfl (ex_assign rfl) ?_
      refine JL_nil ?_
      refine N_then ?_
      refine J_ret ?_
      refine N_then_ret ?_
      refine N_block_ret ?_
      refine N_then_ret ?_
      refine N_round_ret ?_
      exact N_ret4 rfl (rv_cell 1 rfl rfl ti_32 rfl) (rv_tmp rfl) (rv_tmp rfl) (rv_tmp rfl) (fun w hh => ⟨(g7_0, g7_1), rfl, hh.sel [2] rfl⟩)
    · refine J_skip ?_
      refine N_then ?_
      refine J_seq ?_
      refine J_seq ?_
      refine J_region ?_
      refine JL_q (wants_none rfl) rfl (ex_move rfl) ?_
      refine JL_q (wants_none rfl) rfl (ex_move rfl) ?_
      refine JL_q (wants_none rfl) rfl (ex_eql rfl rfl) ?_
      refine JL_nil ?_
      refine N_then ?_
      refine J_if rfl (fun h11 => ?_) (fun h11 => ?_)
      · refine J_seq ?_
        refine J_region ?_
        refine JL_q (wants_none rfl) rfl (ex_load_bx_agg 3 ti_32 rfl rfl rfl rfl) ?_
        refine JL_q (wants_none rfl) rfl (ex_move rfl) ?_
        refine JL_sk (wants_none rfl) (sk_store_bx' 1 ti_32 rfl rfl (fun w hh => (cv_aggs ⟨cv_int, (hh.cv_od 2 rfl), trivial⟩)) rfl rfl rfl rfl) ?_
        refine JL_q (wants_none rfl) rfl (ex_assign rfl) ?_
        refine JL_q (wants_none rfl) rfl (ex_assign rfl) ?_
        refine JL_q (wants_none rfl) rfl (ex_assign rfl) ?_
        refine JL_nil ?_
        refine N_then ?_
        refine J_ret ?_
        refine N_then_ret ?_
        refine N_block_ret ?_
        refine N_then_ret ?_
        refine N_round_ret ?_
        exact N_ret4 rfl (rv_cell 1 rfl rfl ti_32 rfl) (rv_tmp rfl) (rv_tmp rfl) (rv_tmp rfl) (fun w hh => ⟨(g7_0, g7_1), rfl, hh.sel [2] rfl⟩)
      · refine J_skip ?_
        refine N_then ?_
        refine J_seq ?_
        refine J_region ?_
        refine JL_q (wants_none rfl) rfl (ex_move rfl) ?_
        refine JL_bnd fun r12 hr13 => ?_
        refine JL_call (wants_none rfl) rfl Try.call28 rfl (Ca_self (fun _ => rfl) fun w hh => c_spec_l06Step _ w (fun _ hk => hk.elim) _ _ (hh.pa0 0 rfl) _ _ (hh.bx_pa 3 rfl (GMultiConfig.rdmk (Rd.mk_int _ _ _) (hh.od0 2 rfl)) rfl) _ hr13) (fun x14 => ?_)
        obtain ⟨x14_0, x14_1⟩ := x14
        refine JL_q (wants_none rfl) rfl (ex_move rfl) ?_
        refine JL_q (wants_none rfl) rfl (ex_extract rfl rfl) ?_
        refine JL_q (wants_none rfl) rfl (ex_extract rfl rfl) ?_
        refine JL_st (wants_none rfl) rfl (st_alloc zi_32 rfl) (fun b15 => ?_)
        refine JL_sk (wants_none rfl) (sk_store_bx' 0 ti_32 rfl rfl (fun w hh => (cv_aggs ⟨cv_int, (hh.cv_od 1 rfl), trivial⟩)) rfl rfl rfl rfl) ?_
        refine JL_q (wants_none rfl) rfl (ex_assign rfl) ?_
        refine JL_nil ?_
        refine N_then ?_
        refine J_seq ?_
        refine J_seq ?_
        refine J_region ?_
        refine JL_q (wants_none rfl) rfl (ex_move rfl) ?_
        refine JL_q (wants_none rfl) rfl (ex_neq rfl rfl) ?_
        refine JL_nil ?_
        refine N_then ?_
        refine J_if rfl (fun h16 => ?_) (fun h16 => ?_)
        · refine J_seq ?_
          refine J_region ?_
          refine JL_q (wants_none rfl) rfl (ex_build si_32 rfl .nil (fun w hh => trivial)) ?_
          refine JL_q (wants_none rfl) rfl (ex_move rfl) ?_
          refine JL_sk (wants_none rfl) (sk_store_bx' 3 ti_32 rfl rfl (fun w hh => (cv_aggs ⟨cv_int, cv_slice, trivial⟩)) rfl rfl rfl rfl) ?_
          refine JL_q (wants_none rfl) rfl (ex_assign rfl) ?_
          refine JL_q (wants_none rfl) rfl (ex_assign rfl) ?_
          refine JL_q (wants_none rfl) rfl (ex_assign rfl) ?_
          refine JL_nil ?_
          refine N_then ?_
          refine J_ret ?_
          refine N_then_ret ?_
          refine N_block_ret ?_
          refine N_then_ret ?_
          refine N_round_ret ?_
          refine N_ctx (fun w hh => SH.od_nil (α := GTape) 91 hh) ?_
          exact N_ret4 rfl (rv_cell 4 rfl rfl ti_32 rfl) (rv_tmp rfl) (rv_tmp rfl) (rv_tmp rfl) (fun w hh => ⟨((.slice none 0 0 : Value), ([] : List Nat)), rfl, hh.sel [0] rfl⟩)
        · refine J_skip ?_
          refine N_then ?_
          refine J_region ?_
          refine JL_q (wants_none rfl) rfl (ex_load_bx_agg 0 ti_32 rfl rfl rfl rfl) ?_
          refine JL_sk (wants_none rfl) (sk_store_bx' 5 ti_32 rfl rfl (fun w hh => (cv_aggs ⟨cv_int, (hh.cv_od 1 rfl), trivial⟩)) rfl rfl rfl rfl) ?_
          refine JL_nil ?_
          refine N_block ?_
          refine N_then ?_
          refine J_region ?_
          refine JL_q (wants_none rfl) rfl (ex_move rfl) ?_
          refine JL_q (wants_none rfl) rfl (ex_add rfl rfl) ?_
          refine JL_q (wants_none rfl) rfl (ex_assign rfl) ?_
          refine JL_nil ?_
          exact N_next' (x14_0, x14_1) ⟨rfl, rfl, rfl, rfl, rfl, trivial⟩ [2, 3, 1, 5] rfl rfl
  · obtain ⟨g7_0, g7_1⟩ := g7
    exact N_none

set_option maxHeartbeats 40000000 in
theorem c_spec_RunMulti (A : Nat → Prop) (w : World) (hA : ∀ k, A k → k < w.heap.size) (v0_ : Value) (p0 : GMulti) (hp0 : Rd A w v0_ p0) (v1_ : Value) (p1 : GMultiConfig) (hp1 : Rd A w v1_ p1) (p2 : Int) (r : GMultiConfig × Int × Bool × Int) (hr : F_spec_RunMulti p0 p1 p2 = some r) :
    Con Try.prog 17 [v0_, v1_, .int .i64 p2] A w (fun x_ : Value × List Nat => .tuple #[.agg #[.int .i64 r.1.State, x_.1], .int .i64 r.2.1, .bool r.2.2.1, .int .i64 r.2.2.2]) (fun x_ => [.od 91 x_.1 r.1.Tapes x_.2]) := by
  obtain ⟨v0_0, rfl, hp0_0⟩ := GMulti.open hp0
  obtain ⟨v1_0, rfl, hp1_0⟩ := GMultiConfig.open hp1
  refine Con_of (v := fun (r : GMultiConfig × Int × Bool × Int) (x_ : Value × List Nat) => .tuple #[.agg #[.int .i64 r.1.State, x_.1], .int .i64 r.2.1, .bool r.2.2.1, .int .i64 r.2.2.2]) (fs := fun r x_ => [.od 91 x_.1 r.1.Tapes x_.2]) Try.func17 rfl Try.ntmps17 rfl (((SH.start hA).start_rd rfl hp0_0).start_rd rfl hp1_0) rfl ?_ hr
  unfold F_spec_RunMulti
  refine J_seq ?_
  refine J_region ?_
  refine JL_st (wants_none rfl) rfl (st_box' rfl (fun w hh => (cv_aggs ⟨cv_int, cv_int, cv_int, (hh.cv 1 rfl), trivial⟩))) (fun b1 => ?_)
  refine JL_st (wants_none rfl) rfl (st_box' rfl (fun w hh => (cv_aggs ⟨cv_int, (hh.cv 1 rfl), trivial⟩))) (fun b2 => ?_)
  refine JL_st (wants_none rfl) rfl (st_alloc zi_32 rfl) (fun b3 => ?_)
  refine JL_q (wants_none rfl) rfl (ex_assign rfl) ?_
  refine JL_q (wants_none rfl) rfl (ex_assign rfl) ?_
  refine JL_q (wants_none rfl) rfl (ex_assign rfl) ?_
  refine JL_nil ?_
  refine N_then ?_
  refine J_seq ?_
  refine J_cut' (S' := Unit) (G' := Unit) (fun _ _ => [(2, .int .i64 p2), (3, .pointer (some ⟨b1, 0, none⟩)), (4, .pointer (some ⟨b2, 0, none⟩)), (6, .pointer (some ⟨b3, 0, none⟩))]) (fun _ _ => [.rd v0_0 p0.Rules, .bx b1 37 [.int .i64 p0.Tapes, .int .i64 p0.Symbols, .int .i64 p0.States, v0_0], .rd v1_0 p1.Tapes, .bx b2 32 [.int .i64 p1.State, v1_0], .bx b3 32 [.int .i64 0, .slice none 0 0]]) ?_ (fun s4 g5 => ?_)
  · refine J_seq ?_
    refine J_region ?_
    refine JL_bnd fun r6 hr7 => ?_
    refine JL_call (wants_none rfl) rfl Try.call26 rfl (Ca_of0 fun w hh => c_spec_l06Is _ w (fun _ hk => hk.elim) _ _ (hh.bx_pa 2 rfl (GMulti.rdmk (Rd.mk_int _ _ _) (Rd.mk_int _ _ _) (Rd.mk_int _ _ _) (hh.rd0 4 rfl)) rfl) _ hr7) (fun _ => ?_)
    refine JL_q (wants_none rfl) rfl (ex_not rfl) ?_
    refine JL_q (wants_none rfl) rfl (ex_move rfl) ?_
    refine JL_cond (fun h8 => ?_) (fun h8 => ?_)
    · refine JL_passed rfl rfl rfl h8 ?_
      refine JL_passed rfl rfl rfl h8 ?_
      refine JL_q (wants_none rfl) rfl (ex_pick_true rfl h8 rfl) ?_
      refine JL_nil ?_
      refine N_then ?_
      refine J_if_true rfl rfl ?_
      refine J_seq ?_
      refine J_region ?_
      refine JL_q (wants_none rfl) rfl (ex_build si_32 rfl .nil (fun w hh => trivial)) ?_
      refine JL_sk (wants_none rfl) (sk_store_bx' 0 ti_32 rfl rfl (fun w hh => (cv_aggs ⟨cv_int, cv_slice, trivial⟩)) rfl rfl rfl rfl) ?_
      refine JL_q (wants_none rfl) rfl (ex_assign rfl) ?_
      refine JL_q (wants_none rfl) rfl (ex_assign rfl) ?_
      refine JL_q (wants_none rfl) rfl (ex_assign rfl) ?_
      refine JL_nil ?_
      refine N_then ?_
      refine J_ret ?_
      refine N_mid_ret ?_
      refine N_then_ret ?_
      refine N_ctx (fun w hh => SH.od_nil (α := GTape) 91 hh) ?_
      exact N_ret4 rfl (rv_cell 1 rfl rfl ti_32 rfl) (rv_tmp rfl) (rv_tmp rfl) (rv_tmp rfl) (fun w hh => ⟨((.slice none 0 0 : Value), ([] : List Nat)), rfl, hh.sel [0] rfl⟩)
    · refine JL_bnd fun r9 hr10 => ?_
      refine JL_call (wants_some rfl rfl rfl h8) rfl Try.call27 rfl (Ca_of0 fun w hh => c_spec_l06Good _ w (fun _ hk => hk.elim) _ _ (hh.bx_pa 2 rfl (GMulti.rdmk (Rd.mk_int _ _ _) (Rd.mk_int _ _ _) (Rd.mk_int _ _ _) (hh.rd0 4 rfl)) rfl) _ _ (hh.bx_pa 1 rfl (GMultiConfig.rdmk (Rd.mk_int _ _ _) (hh.rd0 3 rfl)) rfl) _ hr10) (fun _ => ?_)
      refine JL_q (wants_some rfl rfl rfl h8) rfl (ex_not rfl) ?_
      refine JL_q (wants_none rfl) rfl (ex_pick_false rfl h8 rfl) ?_
      refine JL_nil ?_
      refine N_then ?_
      refine J_if rfl (fun h11 => ?_) (fun h11 => ?_)
      · refine J_seq ?_
        refine J_region ?_
        refine JL_q (wants_none rfl) rfl (ex_build si_32 rfl .nil (fun w hh => trivial)) ?_
        refine JL_sk (wants_none rfl) (sk_store_bx' 0 ti_32 rfl rfl (fun w hh => (cv_aggs ⟨cv_int, cv_slice, trivial⟩)) rfl rfl rfl rfl) ?_
        refine JL_q (wants_none rfl) rfl (ex_assign rfl) ?_
        refine JL_q (wants_none rfl) rfl (ex_assign rfl) ?_
        refine JL_q (wants_none rfl) rfl (ex_assign rfl) ?_
        refine JL_nil ?_
        refine N_then ?_
        refine J_ret ?_
        refine N_mid_ret ?_
        refine N_then_ret ?_
        refine N_ctx (fun w hh => SH.od_nil (α := GTape) 91 hh) ?_
        exact N_ret4 rfl (rv_cell 1 rfl rfl ti_32 rfl) (rv_tmp rfl) (rv_tmp rfl) (rv_tmp rfl) (fun w hh => ⟨((.slice none 0 0 : Value), ([] : List Nat)), rfl, hh.sel [0] rfl⟩)
      · refine J_skip ?_
        exact N_meet' () ⟨rfl, rfl, rfl, rfl, trivial⟩ [4, 2, 3, 1, 0] rfl rfl
  · refine N_then ?_
    refine J_seq ?_
    refine J_seq ?_
    refine J_region ?_
    refine JL_q (wants_none rfl) rfl (ex_move rfl) ?_
    refine JL_bnd fun r12 hr13 => ?_
    refine JL_call (wants_none rfl) rfl Try.call39 rfl (Ca_of0 fun w hh => c_spec_l00In _ w (fun _ hk => hk.elim) _ _ _ _ hr13) (fun _ => ?_)
    refine JL_q (wants_none rfl) rfl (ex_not rfl) ?_
    refine JL_nil ?_
    refine N_then ?_
    refine J_if rfl (fun h14 => ?_) (fun h14 => ?_)
    · refine J_seq ?_
      refine J_region ?_
      refine JL_q (wants_none rfl) rfl (ex_build si_32 rfl .nil (fun w hh => trivial)) ?_
      refine JL_sk (wants_none rfl) (sk_store_bx' 4 ti_32 rfl rfl (fun w hh => (cv_aggs ⟨cv_int, cv_slice, trivial⟩)) rfl rfl rfl rfl) ?_
      refine JL_q (wants_none rfl) rfl (ex_assign rfl) ?_
      refine JL_q (wants_none rfl) rfl (ex_assign rfl) ?_
      refine JL_q (wants_none rfl) rfl (ex_assign rfl) ?_
      refine JL_nil ?_
      refine N_then ?_
      refine J_ret ?_
      refine N_then_ret ?_
      refine N_ctx (fun w hh => SH.od_nil (α := GTape) 91 hh) ?_
      exact N_ret4 rfl (rv_cell 5 rfl rfl ti_32 rfl) (rv_tmp rfl) (rv_tmp rfl) (rv_tmp rfl) (fun w hh => ⟨((.slice none 0 0 : Value), ([] : List Nat)), rfl, hh.sel [0] rfl⟩)
    · refine J_skip ?_
      refine N_then ?_
      refine J_seq ?_
      refine J_region ?_
      refine JL_q (wants_none rfl) rfl (ex_move rfl) ?_
      refine JL_bnd fun r15 hr16 => ?_
      refine JL_call (wants_none rfl) rfl Try.call40 rfl (Ca_self (fun _ => rfl) fun w hh => c_spec_l06Run _ w (fun _ hk => hk.elim) _ _ (hh.bx_pa 1 rfl (GMulti.rdmk (Rd.mk_int _ _ _) (Rd.mk_int _ _ _) (Rd.mk_int _ _ _) (hh.rd0 0 rfl)) rfl) _ _ (hh.bx_pa 3 rfl (GMultiConfig.rdmk (Rd.mk_int _ _ _) (hh.rd0 2 rfl)) rfl) _ _ hr16) (fun x17 => ?_)
      obtain ⟨x17_0, x17_1⟩ := x17
      refine JL_q (wants_none rfl) rfl (ex_extract rfl rfl) ?_
      refine JL_q (wants_none rfl) rfl (ex_extract rfl rfl) ?_
      refine JL_q (wants_none rfl) rfl (ex_extract rfl rfl) ?_
      refine JL_q (wants_none rfl) rfl (ex_extract rfl rfl) ?_
      refine JL_sk (wants_none rfl) (sk_store_bx' 5 ti_32 rfl rfl (fun w hh => (cv_aggs ⟨cv_int, (hh.cv_od 0 rfl), trivial⟩)) rfl rfl rfl rfl) ?_
      refine JL_q (wants_none rfl) rfl (ex_assign rfl) ?_
      refine JL_q (wants_none rfl) rfl (ex_assign rfl) ?_
      refine JL_q (wants_none rfl) rfl (ex_assign rfl) ?_
      refine JL_nil ?_
      refine N_then ?_
      refine J_ret ?_
      exact N_ret4 rfl (rv_cell 5 rfl rfl ti_32 rfl) (rv_tmp rfl) (rv_tmp rfl) (rv_tmp rfl) (fun w hh => ⟨(x17_0, x17_1), rfl, hh.sel [0] rfl⟩)

set_option maxHeartbeats 40000000 in
theorem c_impl_budgetOk (A : Nat → Prop) (w : World) (hA : ∀ k, A k → k < w.heap.size) (p0 : Int) (r : Bool) (hr : F_impl_budgetOk p0 = some r) :
    Con Try.prog 42 [.int .i64 p0] A w (fun x_ : Unit => .bool r) (fun x_ => []) := by
  refine Con_of (v := fun (r : Bool) (x_ : Unit) => .bool r) (fs := fun r x_ => []) Try.func42 rfl Try.ntmps42 rfl (SH.start hA) rfl ?_ hr
  unfold F_impl_budgetOk
  refine J_seq ?_
  refine J_region ?_
  refine JL_q (wants_none rfl) rfl (ex_assign rfl) ?_
  refine JL_nil ?_
  refine N_then ?_
  refine J_seq ?_
  refine J_region ?_
  refine JL_q (wants_none rfl) rfl (ex_move rfl) ?_
  refine JL_bnd fun r1 hr2 => ?_
  refine JL_call (wants_none rfl) rfl Try.call47 rfl (Ca_of0 fun w hh => c_impl_within _ w (fun _ hk => hk.elim) _ _ _ _ hr2) (fun _ => ?_)
  refine JL_q (wants_none rfl) rfl (ex_assign rfl) ?_
  refine JL_nil ?_
  refine N_then ?_
  refine J_ret ?_
  exact N_ret1 rfl (rv_tmp rfl) (fun w hh => ⟨(), rfl, hh.sel [] rfl⟩)

set_option maxHeartbeats 40000000 in
theorem c_impl_RunMulti_1 (A : Nat → Prop) (w : World) (hA : ∀ k, A k → k < w.heap.size) (v0_ : Value) (p0 : GMultiConfig) (hp0 : Rd A w v0_ p0) (r : Unit) (hr : F_impl_RunMulti_1 p0 = some r) :
    Con Try.prog 44 [v0_] A w (fun x_ : Unit => .tuple #[]) (fun x_ => []) := by
  obtain ⟨v0_0, rfl, hp0_0⟩ := GMultiConfig.open hp0
  refine Con_of (v := fun (r : Unit) (x_ : Unit) => .tuple #[]) (fs := fun r x_ => []) Try.func44 rfl Try.ntmps44 rfl ((SH.start hA).start_rd rfl hp0_0) rfl ?_ hr
  unfold F_impl_RunMulti_1
  refine J_region ?_
  refine JL_st (wants_none rfl) rfl (st_box' rfl (fun w hh => (cv_aggs ⟨cv_int, (hh.cv 0 rfl), trivial⟩))) (fun b1 => ?_)
  refine JL_nil ?_
  exact N_ret0 (.inr rfl) rfl  (fun w hh => ⟨(), rfl, hh.sel [] rfl⟩)

set_option maxHeartbeats 40000000 in
theorem c_impl_RunMulti (A : Nat → Prop) (w : World) (hA : ∀ k, A k → k < w.heap.size) (v0_ : Value) (p0 : GMulti) (hp0 : Rd A w v0_ p0) (v1_ : Value) (p1 : GMultiConfig) (hp1 : Rd A w v1_ p1) (p2 : Int) (r : GMultiConfig × Int × Bool × Int) (hr : F_impl_RunMulti p0 p1 p2 = some r) :
    Con Try.prog 18 [v0_, v1_, .int .i64 p2] A w (fun x_ : Value × List Nat => .tuple #[.agg #[.int .i64 r.1.State, x_.1], .int .i64 r.2.1, .bool r.2.2.1, .int .i64 r.2.2.2]) (fun x_ => [.tkn x_.1 r.1.Tapes x_.2]) := by
  obtain ⟨v0_0, rfl, hp0_0⟩ := GMulti.open hp0
  obtain ⟨v1_0, rfl, hp1_0⟩ := GMultiConfig.open hp1
  refine Con_of (v := fun (r : GMultiConfig × Int × Bool × Int) (x_ : Value × List Nat) => .tuple #[.agg #[.int .i64 r.1.State, x_.1], .int .i64 r.2.1, .bool r.2.2.1, .int .i64 r.2.2.2]) (fs := fun r x_ => [.tkn x_.1 r.1.Tapes x_.2]) Try.func18 rfl Try.ntmps18 rfl (((SH.start hA).start_rd rfl hp0_0).start_rd rfl hp1_0) rfl ?_ hr
  unfold F_impl_RunMulti
  refine J_seq ?_
  refine J_region ?_
  refine JL_st (wants_none rfl) rfl (st_box' rfl (fun w hh => (cv_aggs ⟨cv_int, cv_int, cv_int, (hh.cv 1 rfl), trivial⟩))) (fun b1 => ?_)
  refine JL_st (wants_none rfl) rfl (st_box' rfl (fun w hh => (cv_aggs ⟨cv_int, (hh.cv 1 rfl), trivial⟩))) (fun b2 => ?_)
  refine JL_st (wants_none rfl) rfl (st_alloc zi_32 rfl) (fun b3 => ?_)
  refine JL_q (wants_none rfl) rfl (ex_assign rfl) ?_
  refine JL_q (wants_none rfl) rfl (ex_assign rfl) ?_
  refine JL_q (wants_none rfl) rfl (ex_assign rfl) ?_
  refine JL_nil ?_
  refine N_then ?_
  refine J_seq ?_
  refine J_seq ?_
  refine J_region ?_
  refine JL_q (wants_none rfl) rfl (ex_load_bx_agg 2 ti_37 rfl rfl rfl rfl) ?_
  refine JL_q (wants_none rfl) rfl (ex_load_bx_agg 1 ti_32 rfl rfl rfl rfl) ?_
  refine JL_bnd fun r4 hr5 => ?_
  refine JL_call (wants_none rfl) rfl Try.call41 rfl (Ca_of0 fun w hh => c_impl_ValidMultiConfig _ w (fun _ hk => hk.elim) _ _ (GMulti.rdmk (Rd.mk_int _ _ _) (Rd.mk_int _ _ _) (Rd.mk_int _ _ _) (hh.rd0 4 rfl)) _ _ (GMultiConfig.rdmk (Rd.mk_int _ _ _) (hh.rd0 3 rfl)) _ hr5) (fun _ => ?_)
  refine JL_q (wants_none rfl) rfl (ex_not rfl) ?_
  refine JL_nil ?_
  refine N_then ?_
  refine J_if rfl (fun h6 => ?_) (fun h6 => ?_)
  · refine J_seq ?_
    refine J_region ?_
    refine JL_q (wants_none rfl) rfl (ex_build si_32 rfl .nil (fun w hh => trivial)) ?_
    refine JL_sk (wants_none rfl) (sk_store_bx' 0 ti_32 rfl rfl (fun w hh => (cv_aggs ⟨cv_int, cv_slice, trivial⟩)) rfl rfl rfl rfl) ?_
    refine JL_q (wants_none rfl) rfl (ex_assign rfl) ?_
    refine JL_q (wants_none rfl) rfl (ex_assign rfl) ?_
    refine JL_q (wants_none rfl) rfl (ex_assign rfl) ?_
    refine JL_nil ?_
    refine N_then ?_
    refine J_ret ?_
    refine N_then_ret ?_
    refine N_ctx (fun w hh => SH.od_nil (α := GTape) 91 hh) ?_
    refine N_ctx (fun w hh => hh.tok 0 rfl) ?_
    exact N_ret4 rfl (rv_cell 2 rfl rfl ti_32 rfl) (rv_tmp rfl) (rv_tmp rfl) (rv_tmp rfl) (fun w hh => ⟨((.slice none 0 0 : Value), ((.slice none 0 0 : Value).ownBlock.toList ++ [])), rfl, hh.sel [0] rfl⟩)
  · refine J_skip ?_
    refine N_then ?_
    refine J_seq ?_
    refine J_seq ?_
    refine J_region ?_
    refine JL_q (wants_none rfl) rfl (ex_move rfl) ?_
    refine JL_bnd fun r7 hr8 => ?_
    refine JL_call (wants_none rfl) rfl Try.call42 rfl (Ca_of0 fun w hh => c_impl_budgetOk _ w (fun _ hk => hk.elim) _ _ hr8) (fun _ => ?_)
    refine JL_q (wants_none rfl) rfl (ex_not rfl) ?_
    refine JL_nil ?_
    refine N_then ?_
    refine J_if rfl (fun h9 => ?_) (fun h9 => ?_)
    · refine J_seq ?_
      refine J_region ?_
      refine JL_q (wants_none rfl) rfl (ex_build si_32 rfl .nil (fun w hh => trivial)) ?_
      refine JL_sk (wants_none rfl) (sk_store_bx' 0 ti_32 rfl rfl (fun w hh => (cv_aggs ⟨cv_int, cv_slice, trivial⟩)) rfl rfl rfl rfl) ?_
      refine JL_q (wants_none rfl) rfl (ex_assign rfl) ?_
      refine JL_q (wants_none rfl) rfl (ex_assign rfl) ?_
      refine JL_q (wants_none rfl) rfl (ex_assign rfl) ?_
      refine JL_nil ?_
      refine N_then ?_
      refine J_ret ?_
      refine N_then_ret ?_
      refine N_ctx (fun w hh => SH.od_nil (α := GTape) 91 hh) ?_
      refine N_ctx (fun w hh => hh.tok 0 rfl) ?_
      exact N_ret4 rfl (rv_cell 2 rfl rfl ti_32 rfl) (rv_tmp rfl) (rv_tmp rfl) (rv_tmp rfl) (fun w hh => ⟨((.slice none 0 0 : Value), ((.slice none 0 0 : Value).ownBlock.toList ++ [])), rfl, hh.sel [0] rfl⟩)
    · refine J_skip ?_
      refine N_then ?_
      refine J_seq ?_
      refine J_region ?_
      refine JL_q (wants_none rfl) rfl (ex_load_bx_agg 1 ti_32 rfl rfl rfl rfl) ?_
      refine JL_bnd fun r10 hr11 => ?_
      refine JL_call (wants_none rfl) rfl Try.call32 rfl (Ca_self (fun _ => rfl) fun w hh => Con.mapx (v' := fun (x_ : Value × List Nat) => .agg #[.int .i64 r10.State, x_.1]) (fs' := fun x_ => [mkr x_.1 r10.Tapes x_.2]) (c_impl_copyMultiConfig _ w (fun _ hk => hk.elim) _ _ (GMultiConfig.rdmk (Rd.mk_int _ _ _) (hh.rd0 3 rfl)) _ hr11) (fun x_ w_ k_ => by obtain ⟨C_, k2_⟩ := SH.od_mk k_; exact ⟨(x_.1, C_), rfl, k2_⟩)) (fun x12 => ?_)
      obtain ⟨x12_0, x12_1⟩ := x12
      refine JL_st (wants_none rfl) rfl (st_alloc zi_32 rfl) (fun b13 => ?_)
      refine JL_sk (wants_none rfl) (sk_store_bx' 0 ti_32 rfl rfl (fun w hh => (cv_aggs ⟨cv_int, (hh.cv_mk 1 rfl), trivial⟩)) rfl rfl rfl rfl) ?_
      refine JL_nil ?_
      refine N_then ?_
      refine J_seq ?_
      refine J_region ?_
      refine JL_q (wants_none rfl) rfl (ex_load_bx_agg 4 ti_37 rfl rfl rfl rfl) ?_
      refine JL_q (wants_none rfl) rfl (ex_move rfl) ?_
      refine JL_inline (wants_none rfl) rfl Try.call43 rfl Try.func43 rfl Try.ntmps43 rfl rfl (fun K_ hK14 => ?_)
      refine J_seq ?_
      refine J_region ?_
      refine JL_st (wants_none rfl) rfl (st_box' rfl (fun w hh => (cv_aggs ⟨cv_int, cv_int, cv_int, (hh.cv 6 rfl), trivial⟩))) (fun b15 => ?_)
      refine JL_q (wants_none rfl) rfl (ex_assign rfl) ?_
      refine JL_q (wants_none rfl) rfl (ex_assign rfl) ?_
      refine JL_q (wants_none rfl) rfl (ex_assign rfl) ?_
      refine JL_nil ?_
      refine N_then ?_
      refine J_seq ?_
      refine J_region ?_
      refine JL_q (wants_none rfl) rfl (ex_load_bx_agg 0 ti_37 rfl rfl rfl rfl) ?_
      refine JL_inline (wants_none rfl) rfl Try.call57 rfl Try.func57 rfl Try.ntmps57 rfl rfl (fun K_ hK16 => ?_)
      refine J_seq ?_
      refine J_region ?_
      refine JL_st (wants_none rfl) rfl (st_box' rfl (fun w hh => (cv_aggs ⟨cv_int, cv_int, cv_int, (hh.cv 7 rfl), trivial⟩))) (fun b17 => ?_)
      refine JL_q (wants_none rfl) rfl (ex_assign rfl) ?_
      refine JL_nil ?_
      refine N_then ?_
      refine J_seq ?_
      refine J_region ?_
      refine JL_st (wants_none rfl) rfl (st_makeMap (κ := Greading) (ν := Int) (enc := Greading.enc) (venc := (Value.int .i64))) (fun b18 => ?_)
      refine JL_q (wants_none rfl) rfl (ex_assign rfl) ?_
      refine JL_nil ?_
      refine N_then ?_
      refine J_seq ?_
      refine J_seq ?_
      refine J_region ?_
      refine JL_q (wants_none rfl) rfl (ex_fieldAddr fi_37_3 rfl rfl) ?_
      refine JL_q (wants_none rfl) rfl (ex_load_bx 1 ti_35 rfl rfl rfl) ?_
      refine JL_q (wants_none rfl) rfl (ex_len_rd 9 Try.underlying35 rfl rfl) ?_
      refine JL_q (wants_none rfl) rfl (ex_move rfl) ?_
      refine JL_nil ?_
      refine N_then ?_
      refine J_loop' (S := List (Greading × Int) × Int) (G := Unit) (F_impl_RunMulti_L1 p0) (fun s19 _ => [(3, .map (some b18)), (9, v0_0), (10, .int .i64 (p0.Rules.length : Int)), (11, .int .i64 s19.2)]) (fun s19 _ => [mpf Greading.enc (Value.int .i64) b18 s19.1, .rd v0_0 p0.Rules, .bx b3 32 [.int .i64 0, .slice none 0 0], mkr x12_0 r10.Tapes x12_1, .bx b13 32 [.int .i64 r10.State, x12_0], .bx b15 37 [.int .i64 p0.Tapes, .int .i64 p0.Symbols, .int .i64 p0.States, v0_0]]) (([] : List (Greading × Int)), 0) () ⟨rfl, rfl, rfl, rfl, trivial⟩ [0, 9, 5, 4, 3, 2] rfl rfl (fun s19 g20 => ?_) (fun s19 g20 => ?_)
      · unfold F_impl_RunMulti_L1
        refine J_seq ?_
        refine J_region ?_
        refine JL_q (wants_none rfl) rfl (ex_lss rfl rfl) ?_
        refine JL_nil ?_
        refine N_then ?_
        refine J_seq ?_
        refine J_if rfl (fun h21 => ?_) (fun h21 => ?_)
        · refine J_skip ?_
          refine N_then ?_
          refine J_seq ?_
          refine J_block ?_
          refine J_seq ?_
          refine J_region ?_
          refine JL_q (wants_none rfl) rfl (ex_move rfl) ?_
          refine JL_bnd fun y22 hy23 => ?_
          refine JL_st (wants_none rfl) rfl (st_index 1 Try.underlying35 ti_68 rfl rfl rfl hy23) (fun q24 => ?_)
          refine JL_st (wants_none rfl) rfl (st_load_pt_o 0 (GMultiRule.opens _) ti_68 rfl rfl) (fun v25 => ?_)
          refine JL_st (wants_none rfl) rfl (st_alloc zi_68 rfl) (fun b26 => ?_)
          refine JL_q (wants_none rfl) rfl (ex_assign rfl) ?_
          refine JL_sk (wants_none rfl) (sk_store_bx' 0 ti_68 rfl rfl (fun w hh => (cv_aggs ⟨cv_int, (hh.cv 1 rfl), (hh.cv 2 rfl), (hh.cv 3 rfl), cv_int, trivial⟩)) rfl rfl rfl rfl) ?_
          refine JL_nil ?_
          refine N_then ?_
          refine J_seq ?_
          refine J_region ?_
          refine JL_q (wants_none rfl) rfl (ex_fieldAddr fi_68_0 rfl rfl) ?_
          refine JL_q (wants_none rfl) rfl (ex_load_bx 0 ti_2 rfl rfl rfl) ?_
          refine JL_q (wants_none rfl) rfl (ex_build si_101 rfl (.cons fi_101_0 rfl rfl .nil) (fun w hh => ⟨cv_int, trivial⟩)) ?_
          refine JL_st (wants_none rfl) rfl (st_alloc zi_101 rfl) (fun b27 => ?_)
          refine JL_sk (wants_none rfl) (sk_store_bx' 0 ti_101 rfl rfl (fun w hh => (cv_aggs ⟨cv_int, cv_int, cv_int, cv_int, trivial⟩)) rfl rfl rfl rfl) ?_
          refine JL_nil ?_
          refine N_then ?_
          refine J_seq ?_
          refine J_draw [0] (by kernel_rfl) ?_
          refine JP_take (i := 0) [1, 2, 3, 4, 5, 6, 7, 8, 9, 10, 11] [0] rfl (by kernel_rfl) (by kernel_rfl) (by kernel_rfl) rfl rfl (wants_none rfl) rfl (ex_fieldAddr fi_101_1 rfl rfl) ?_
          refine JP_take (i := 1) [1, 2, 3, 4, 5, 6, 7, 8, 9, 10, 11] [0] rfl (by kernel_rfl) (by kernel_rfl) (by kernel_rfl) rfl rfl (wants_none rfl) rfl (ex_slice_bx Try.underlying99 ti_2 rfl) ?_
          refine JP_take (i := 2) [1, 2, 3, 4, 5, 6, 7, 8, 9, 10, 11] [0] rfl (by kernel_rfl) (by kernel_rfl) (by kernel_rfl) rfl rfl (wants_none rfl) rfl (ex_fieldAddr fi_68_1 rfl rfl) ?_
          refine JP_take (i := 3) [1, 2, 3, 4, 5, 6, 7, 8, 9, 10, 11] [0] rfl (by kernel_rfl) (by kernel_rfl) (by kernel_rfl) rfl rfl (wants_none rfl) rfl (ex_load_bx 0 ti_66 rfl rfl rfl) ?_
          refine JP_go [1, 2, 3, 4, 5, 6, 7, 8, 9, 10, 11] [0] rfl rfl rfl (fun w29 h1_30 hp28 => ?_)
          refine JD_one (i := 4) (by kernel_rfl) ?_
          refine JO_st rfl (wants_none rfl) rfl (st_copy_bx [0, 0, 0] 0 Try.underlying66 ti_2 rfl rfl rfl rfl rfl rfl rfl (fun w hh => hh.src_rd 2 rfl)) (sub_bx 0 rfl) (fun _ => ?_)
          refine JD_done (by kernel_rfl) ?_
          refine N_then ?_
          refine J_region ?_
          refine JL_q (wants_none rfl) rfl (ex_move rfl) ?_
          refine JL_q (wants_none rfl) rfl (ex_load_bx_agg 0 ti_101 rfl rfl rfl rfl) ?_
          refine JL_q (wants_none rfl) rfl (ex_move rfl) ?_
          refine JL_sk (wants_none rfl) (sk_mapUpdate (x := (⟨y22.State, (y22.Read.getD 0 0), (y22.Read.getD 1 0), (y22.Read.getD 2 0)⟩ : Greading)) (y := s19.2) 6 key_101 Try.underlying97 rfl rfl rfl rfl rfl rfl rfl rfl) ?_
          refine JL_nil ?_
          refine N_block ?_
          refine N_then ?_
          refine J_region ?_
          refine JL_q (wants_none rfl) rfl (ex_add rfl rfl) ?_
          refine JL_q (wants_none rfl) rfl (ex_move rfl) ?_
          refine JL_nil ?_
          exact N_next' () ⟨rfl, rfl, rfl, rfl, trivial⟩ [6, 7, 8, 9, 10, 11] rfl rfl
        · refine J_exit ?_
          refine N_then_exit ?_
          exact N_break' () ⟨rfl, rfl, rfl, rfl, trivial⟩ [0, 1, 2, 3, 4, 5] rfl rfl
      · refine N_then ?_
        refine J_seq ?_
        refine J_region ?_
        refine JL_q (wants_none rfl) rfl (ex_move rfl) ?_
        refine JL_q (wants_none rfl) rfl (ex_assign rfl) ?_
        refine JL_nil ?_
        refine N_then ?_
        refine J_ret ?_
        refine N_inl1 hK16 rfl (rv_tmp rfl) ?_
        refine JL_q (wants_none rfl) rfl (ex_assign rfl) ?_
        refine JL_nil ?_
        refine N_then ?_
        refine J_seq ?_
        refine J_region ?_
        refine JL_q (wants_none rfl) rfl (ex_assign rfl) ?_
        refine JL_nil ?_
        refine N_then ?_
        refine J_loop' (S := Int × (List GTape) × Int) (G := Value × List Nat) (F_impl_RunMulti_L2 p0 p2 s19) (fun s31 g32 => [(1, .pointer (some ⟨b13, 0, none⟩)), (2, .int .i64 p2), (3, .func (.func 44) #[] #[]), (4, .pointer (some ⟨b15, 0, none⟩)), (11, .map (some b18)), (12, .int .i64 s31.2.2)]) (fun s31 g32 => [mkr g32.1 s31.2.1 g32.2, .bx b13 32 [.int .i64 s31.1, g32.1], .rd v0_0 p0.Rules, .bx b15 37 [.int .i64 p0.Tapes, .int .i64 p0.Symbols, .int .i64 p0.States, v0_0], mpf Greading.enc (Value.int .i64) b18 s19.1, .bx b3 32 [.int .i64 0, .slice none 0 0]]) (r10.State, r10.Tapes, 0) (x12_0, x12_1) ⟨rfl, rfl, rfl, rfl, rfl, rfl, trivial⟩ [3, 4, 1, 5, 0, 2] rfl rfl (fun s31 g32 => ?_) (fun s31 g32 => ?_)
        · obtain ⟨g32_0, g32_1⟩ := g32
          unfold F_impl_RunMulti_L2
          refine J_seq ?_
          refine J_block ?_
          refine J_seq ?_
          refine J_region ?_
          refine JL_q (wants_none rfl) rfl (ex_move rfl) ?_
          refine JL_q (wants_none rfl) rfl (ex_move rfl) ?_
          refine JL_q (wants_none rfl) rfl (ex_nilCheck rfl) ?_
          refine JL_q (wants_none rfl) rfl (ex_load_bx_agg 1 ti_32 rfl rfl rfl rfl) ?_
          refine JL_bnd fun r33 hr34 => ?_
          refine JL_callv (args := [_]) (caps := []) (wants_none rfl) rfl Try.call44 rfl rfl (Ca_of0 fun w hh => c_impl_RunMulti_1 nowhere w (fun _ hk => hk.elim) _ _ (GMultiConfig.rdmk (Rd.mk_int _ _ _) (hh.mk0 0 rfl))  _ hr34) (fun _ => ?_)
          refine JL_nil ?_
          refine N_then ?_
          refine J_seq ?_
          refine J_region ?_
          refine JL_q (wants_none rfl) rfl (ex_move rfl) ?_
          refine JL_q (wants_none rfl) rfl (ex_move rfl) ?_
          refine JL_bnd fun r35 hr36 => ?_
          refine JL_call (wants_none rfl) rfl Try.call58 rfl (Ca_of0 fun w hh => c_impl_MultiConfig_read _ w (fun _ hk => hk.elim) _ _ (hh.bx_pa 1 rfl (GMultiConfig.rdmk (Rd.mk_int _ _ _) (hh.mk0 0 rfl)) rfl) _ hr36) (fun _ => ?_)
          refine JL_q (wants_none rfl) rfl (ex_lookup_ok (x := r35) (z := 0) 4 key_101 Try.underlying97 zi_2 rfl rfl rfl rfl rfl) ?_
          refine JL_q (wants_none rfl) rfl (ex_move rfl) ?_
          refine JL_q (wants_none rfl) rfl (ex_extract rfl rfl) ?_
          refine JL_q (wants_none rfl) rfl (ex_extract rfl rfl) ?_
          refine JL_q (wants_none rfl) rfl (ex_assign rfl) ?_
          refine JL_q (wants_none rfl) rfl (ex_assign rfl) ?_
          refine JL_nil ?_
          refine N_then ?_
          refine J_seq ?_
          refine J_seq ?_
          refine J_region ?_
          refine JL_q (wants_none rfl) rfl (ex_move rfl) ?_
          refine JL_q (wants_none rfl) rfl (ex_not rfl) ?_
          refine JL_q (wants_none rfl) rfl (ex_move rfl) ?_
          refine JL_cond (fun h37 => ?_) (fun h37 => ?_)
          · refine JL_passed rfl rfl rfl h37 ?_
            refine JL_passed rfl rfl rfl h37 ?_
            refine JL_passed rfl rfl rfl h37 ?_
            refine JL_q (wants_none rfl) rfl (ex_pick_true rfl h37 rfl) ?_
            refine JL_nil ?_
            refine N_then ?_
            refine J_if_true rfl rfl ?_
            refine J_seq ?_
            refine J_region ?_
            refine JL_q (wants_none rfl) rfl (ex_move rfl) ?_
            refine JL_q (wants_none rfl) rfl (ex_move rfl) ?_
            refine JL_q (wants_none rfl) rfl (ex_not rfl) ?_
            refine JL_q (wants_none rfl) rfl (ex_assign rfl) ?_
            refine JL_q (wants_none rfl) rfl (ex_assign rfl) ?_
            refine JL_q (wants_none rfl) rfl (ex_assign rfl) ?_
            refine JL_nil ?_
            refine N_then ?_
            refine J_ret ?_
            refine N_then_ret ?_
            refine N_block_ret ?_
            refine N_then_ret ?_
            refine N_round_reti ?_
            refine N_inl3 hK14 rfl (rv_tmp rfl) (rv_tmp rfl) (rv_tmp rfl) ?_
            refine JL_q (wants_none rfl) rfl (ex_move rfl) ?_
            refine JL_q (wants_none rfl) rfl (ex_extract rfl rfl) ?_
            refine JL_q (wants_none rfl) rfl (ex_extract rfl rfl) ?_
            refine JL_q (wants_none rfl) rfl (ex_extract rfl rfl) ?_
            refine JL_q (wants_none rfl) rfl (ex_assign rfl) ?_
            refine JL_q (wants_none rfl) rfl (ex_assign rfl) ?_
            refine JL_q (wants_none rfl) rfl (ex_assign rfl) ?_
            refine JL_nil ?_
            refine N_then ?_
            refine J_seq ?_
            refine J_seq ?_
            refine J_region ?_
            refine JL_q (wants_none rfl) rfl (ex_move rfl) ?_
            refine JL_q (wants_none rfl) rfl (ex_neq rfl rfl) ?_
            refine JL_nil ?_
            refine N_then ?_
            refine J_if_false rfl (by decide) ?_
            refine J_skip ?_
            refine N_then ?_
            refine J_seq ?_
            refine J_region ?_
            refine JL_q (wants_none rfl) rfl (ex_load_bx_agg 1 ti_32 rfl rfl rfl rfl) ?_
            refine JL_q (wants_none rfl) rfl (ex_move rfl) ?_
            refine JL_q (wants_none rfl) rfl (ex_move rfl) ?_
            refine JL_sk (wants_none rfl) (sk_store_bx' 5 ti_32 rfl rfl (fun w hh => (cv_aggs ⟨cv_int, (hh.cv_mk 0 rfl), trivial⟩)) rfl rfl rfl rfl) ?_
            refine JL_q (wants_none rfl) rfl (ex_assign rfl) ?_
            refine JL_q (wants_none rfl) rfl (ex_assign rfl) ?_
            refine JL_q (wants_none rfl) rfl (ex_assign rfl) ?_
            refine JL_nil ?_
            refine N_then ?_
            refine J_ret ?_
            refine N_ctx (fun w hh => hh.mktok 0 rfl) ?_
            exact N_ret4 rfl (rv_cell 6 rfl rfl ti_32 rfl) (rv_tmp rfl) (rv_tmp rfl) (rv_tmp rfl) (fun w hh => ⟨(g32_0, g32_1), rfl, hh.sel [0] rfl⟩)
          · refine JL_q (wants_some rfl rfl rfl h37) rfl (ex_move rfl) ?_
            refine JL_q (wants_some rfl rfl rfl h37) rfl (ex_move rfl) ?_
            refine JL_q (wants_some rfl rfl rfl h37) rfl (ex_eql rfl rfl) ?_
            refine JL_q (wants_none rfl) rfl (ex_pick_false rfl h37 rfl) ?_
            refine JL_nil ?_
            refine N_then ?_
            refine J_if rfl (fun h38 => ?_) (fun h38 => ?_)
            · refine J_seq ?_
              refine J_region ?_
              refine JL_q (wants_none rfl) rfl (ex_move rfl) ?_
              refine JL_q (wants_none rfl) rfl (ex_move rfl) ?_
              refine JL_q (wants_none rfl) rfl (ex_not rfl) ?_
              refine JL_q (wants_none rfl) rfl (ex_assign rfl) ?_
              refine JL_q (wants_none rfl) rfl (ex_assign rfl) ?_
              refine JL_q (wants_none rfl) rfl (ex_assign rfl) ?_
              refine JL_nil ?_
              refine N_then ?_
              refine J_ret ?_
              refine N_then_ret ?_
              refine N_block_ret ?_
              refine N_then_ret ?_
              refine N_round_reti ?_
              refine N_inl3 hK14 rfl (rv_tmp rfl) (rv_tmp rfl) (rv_tmp rfl) ?_
              refine JL_q (wants_none rfl) rfl (ex_move rfl) ?_
              refine JL_q (wants_none rfl) rfl (ex_extract rfl rfl) ?_
              refine JL_q (wants_none rfl) rfl (ex_extract rfl rfl) ?_
              refine JL_q (wants_none rfl) rfl (ex_extract rfl rfl) ?_
              refine JL_q (wants_none rfl) rfl (ex_assign rfl) ?_
              refine JL_q (wants_none rfl) rfl (ex_assign rfl) ?_
              refine JL_q (wants_none rfl) rfl (ex_assign rfl) ?_
              refine JL_nil ?_
              refine N_then ?_
              refine J_seq ?_
              refine J_seq ?_
              refine J_region ?_
              refine JL_q (wants_none rfl) rfl (ex_move rfl) ?_
              refine JL_q (wants_none rfl) rfl (ex_neq rfl rfl) ?_
              refine JL_nil ?_
              refine N_then ?_
              refine J_if_false rfl (by decide) ?_
              refine J_skip ?_
              refine N_then ?_
              refine J_seq ?_
              refine J_region ?_
              refine JL_q (wants_none rfl) rfl (ex_load_bx_agg 1 ti_32 rfl rfl rfl rfl) ?_
              refine JL_q (wants_none rfl) rfl (ex_move rfl) ?_
              refine JL_q (wants_none rfl) rfl (ex_move rfl) ?_
              refine JL_sk (wants_none rfl) (sk_store_bx' 5 ti_32 rfl rfl (fun w hh => (cv_aggs ⟨cv_int, (hh.cv_mk 0 rfl), trivial⟩)) rfl rfl rfl rfl) ?_
              refine JL_q (wants_none rfl) rfl (ex_assign rfl) ?_
              refine JL_q (wants_none rfl) rfl (ex_assign rfl) ?_
              refine JL_q (wants_none rfl) rfl (ex_assign rfl) ?_
              refine JL_nil ?_
              refine N_then ?_
              refine J_ret ?_
              refine N_ctx (fun w hh => hh.mktok 0 rfl) ?_
              exact N_ret4 rfl (rv_cell 6 rfl rfl ti_32 rfl) (rv_tmp rfl) (rv_tmp rfl) (rv_tmp rfl) (fun w hh => ⟨(g32_0, g32_1), rfl, hh.sel [0] rfl⟩)
            · refine J_skip ?_
              refine N_then ?_
              refine J_seq ?_
              refine J_region ?_
              refine JL_q (wants_none rfl) rfl (ex_move rfl) ?_
              refine JL_q (wants_none rfl) rfl (ex_fieldAddr fi_37_3 rfl rfl) ?_
              refine JL_q (wants_none rfl) rfl (ex_load_bx 3 ti_35 rfl rfl rfl) ?_
              refine JL_q (wants_none rfl) rfl (ex_move rfl) ?_
              refine JL_bnd fun y39 hy40 => ?_
              refine JL_st (wants_none rfl) rfl (st_index 2 Try.underlying35 ti_68 rfl rfl rfl hy40) (fun q41 => ?_)
              refine JL_st (wants_none rfl) rfl (st_load_pt_o 0 (GMultiRule.opens _) ti_68 rfl rfl) (fun v42 => ?_)
              refine JL_inline (wants_none rfl) rfl Try.call33 rfl Try.func33 rfl Try.ntmps33 rfl rfl (fun K_ hK43 => ?_)
              refine J_seq ?_
              refine J_region ?_
              refine JL_st (wants_none rfl) rfl (st_box' rfl (fun w hh => (cv_aggs ⟨cv_int, (hh.cv 0 rfl), (hh.cv 1 rfl), (hh.cv 2 rfl), cv_int, trivial⟩))) (fun b44 => ?_)
              refine JL_q (wants_none rfl) rfl (ex_assign rfl) ?_
              refine JL_nil ?_
              refine N_then ?_
              refine J_seq ?_
              refine J_region ?_
              refine JL_q (wants_none rfl) rfl (ex_assign rfl) ?_
              refine JL_nil ?_
              refine N_then ?_
              refine J_seq ?_
              refine J_seq ?_
              refine J_region ?_
              refine JL_q (wants_none rfl) rfl (ex_move rfl) ?_
              refine JL_q (wants_none rfl) rfl (ex_nilCheck rfl) ?_
              refine JL_q (wants_none rfl) rfl (ex_fieldAddr fi_32_1 rfl rfl) ?_
              refine JL_q (wants_none rfl) rfl (ex_load_bx 6 ti_30 rfl rfl rfl) ?_
              refine JL_q (wants_none rfl) rfl (ex_len_mk 5 Try.underlying30 rfl rfl) ?_
              refine JL_q (wants_none rfl) rfl (ex_move rfl) ?_
              refine JL_nil ?_
              refine N_then ?_
              refine J_loop' (S := (List GTape) × Bool × Int) (G := Value × List Nat) (F_impl_RunMulti_L3 s31 y39) (fun s45 g46 => [(0, .pointer (some ⟨b13, 0, none⟩)), (3, .pointer (some ⟨b44, 0, none⟩)), (5, .bool s45.2.1), (12, .int .i64 (s31.2.1.length : Int)), (13, .int .i64 s45.2.2)]) (fun s45 g46 => [mkr g46.1 s45.1 g46.2, .bx b13 32 [.int .i64 s31.1, g46.1], .rd v42.1 y39.Read, .rd v42.2.1 y39.Write, .rd v42.2.2 y39.Move, .bx b44 68 [.int .i64 y39.State, v42.1, v42.2.1, v42.2.2, .int .i64 y39.Next], .bx b3 32 [.int .i64 0, .slice none 0 0], .rd v0_0 p0.Rules, .bx b15 37 [.int .i64 p0.Tapes, .int .i64 p0.Symbols, .int .i64 p0.States, v0_0], mpf Greading.enc (Value.int .i64) b18 s19.1]) (s31.2.1, true, 0) (g32_0, g32_1) ⟨rfl, rfl, rfl, rfl, rfl, trivial⟩ [5, 6, 1, 2, 3, 0, 10, 7, 8, 9] rfl rfl (fun s45 g46 => ?_) (fun s45 g46 => ?_)
              · obtain ⟨g46_0, g46_1⟩ := g46
                unfold F_impl_RunMulti_L3
                refine J_seq ?_
                refine J_region ?_
                refine JL_q (wants_none rfl) rfl (ex_lss rfl rfl) ?_
                refine JL_nil ?_
                refine N_then ?_
                refine J_seq ?_
                refine J_if rfl (fun h47 => ?_) (fun h47 => ?_)
                · refine J_skip ?_
                  refine N_then ?_
                  refine J_seq ?_
                  refine J_block ?_
                  refine J_seq ?_
                  refine J_region ?_
                  refine JL_q (wants_none rfl) rfl (ex_move rfl) ?_
                  refine JL_q (wants_none rfl) rfl (ex_assign rfl) ?_
                  refine JL_nil ?_
                  refine N_then ?_
                  refine J_seq ?_
                  refine J_region ?_
                  refine JL_q (wants_none rfl) rfl (ex_move rfl) ?_
                  refine JL_q (wants_none rfl) rfl (ex_nilCheck rfl) ?_
                  refine JL_q (wants_none rfl) rfl (ex_fieldAddr fi_32_1 rfl rfl) ?_
                  refine JL_q (wants_none rfl) rfl (ex_load_bx 1 ti_30 rfl rfl rfl) ?_
                  refine JL_q (wants_none rfl) rfl (ex_move rfl) ?_
                  refine JL_bnd fun y48 hy49 => ?_
                  refine JL_mk_open 0 rfl hy49 ?_; rintro b50 o52 cap51 rfl
                  refine JL_hole 0 rfl hy49 rfl (GTape.two _) ?_; intro L53 R54 v55 v56 C57 C58 Ba59 Bb60 tt61 hL62
                  refine JL_q (wants_none rfl) rfl (ex_index_hole Try.underlying30 ti_91 rfl rfl hy49 rfl hL62) ?_
                  refine JL_q (wants_none rfl) rfl (ex_assign rfl) ?_
                  refine JL_nil ?_
                  refine N_then ?_
                  refine J_seq ?_
                  refine J_draw [0, 1, 2] (by kernel_rfl) ?_
                  refine JP_take (i := 0) [3, 4, 5, 6, 7, 8, 9, 10, 11, 12, 13] [0, 1, 2] rfl (by kernel_rfl) (by kernel_rfl) (by kernel_rfl) rfl rfl (wants_none rfl) rfl (ex_move rfl) ?_
                  refine JP_take (i := 1) [3, 4, 5, 6, 7, 8, 9, 10, 11, 12, 13] [0, 1, 2] rfl (by kernel_rfl) (by kernel_rfl) (by kernel_rfl) rfl rfl (wants_none rfl) rfl (ex_fieldAddr fi_68_2 rfl rfl) ?_
                  refine JP_take (i := 2) [3, 4, 5, 6, 7, 8, 9, 10, 11, 12, 13] [0, 1, 2] rfl (by kernel_rfl) (by kernel_rfl) (by kernel_rfl) rfl rfl (wants_none rfl) rfl (ex_load_bx 6 ti_66 rfl rfl rfl) ?_
                  refine JP_take (i := 3) [3, 4, 5, 6, 7, 8, 9, 10, 11, 12, 13] [0, 1, 2] rfl (by kernel_rfl) (by kernel_rfl) (by kernel_rfl) rfl rfl (wants_none rfl) rfl (ex_move rfl) ?_
                  refine JP_bnd fun y63 hy64 => ?_
                  refine JP_sq (i := 4) [0, 1, 2] rfl (by kernel_rfl) (by kernel_rfl) (by kernel_rfl) rfl (wants_none rfl) rfl (sq_index 7 Try.underlying66 ti_2 rfl rfl rfl hy64) (fun q65 => ?_)
                  refine JP_sq (i := 5) [1, 2, 3] rfl (by kernel_rfl) (by kernel_rfl) (by kernel_rfl) rfl (wants_none rfl) rfl (sq_load_pt_o 0 (opens_int _) ti_2 rfl rfl) (fun _ => ?_)
                  refine JP_take (i := 6) [0, 4, 5, 6, 7, 8, 9, 10, 11, 12, 13, 14] [1, 2, 3] rfl (by kernel_rfl) (by kernel_rfl) (by kernel_rfl) rfl rfl (wants_none rfl) rfl (ex_fieldAddr fi_68_3 rfl rfl) ?_
                  refine JP_take (i := 7) [0, 4, 5, 6, 7, 8, 9, 10, 11, 12, 13, 14] [1, 2, 3] rfl (by kernel_rfl) (by kernel_rfl) (by kernel_rfl) rfl rfl (wants_none rfl) rfl (ex_load_bx 7 ti_66 rfl rfl rfl) ?_
                  refine JP_take (i := 8) [0, 4, 5, 6, 7, 8, 9, 10, 11, 12, 13, 14] [1, 2, 3] rfl (by kernel_rfl) (by kernel_rfl) (by kernel_rfl) rfl rfl (wants_none rfl) rfl (ex_move rfl) ?_
                  refine JP_bnd fun y67 hy68 => ?_
                  refine JP_sq (i := 9) [1, 2, 3] rfl (by kernel_rfl) (by kernel_rfl) (by kernel_rfl) rfl (wants_none rfl) rfl (sq_index 9 Try.underlying66 ti_2 rfl rfl rfl hy68) (fun q69 => ?_)
                  refine JP_sq (i := 10) [2, 3, 4] rfl (by kernel_rfl) (by kernel_rfl) (by kernel_rfl) rfl (wants_none rfl) rfl (sq_load_pt_o 0 (opens_int _) ti_2 rfl rfl) (fun _ => ?_)
                  refine JP_go [0, 1, 5, 6, 7, 8, 9, 10, 11, 12, 13, 14, 15] [2, 3, 4] rfl rfl rfl (fun w72 h1_73 hp71 => ?_)
                  refine JD_bnd fun r74 hr75 => ?_
                  refine JD_one (i := 11) (by kernel_rfl) ?_
                  refine JO_callT rfl (wants_none rfl) rfl Try.call60 rfl (CaT_of [2, 3, 4] [0, 1, 5, 6, 7, 8, 9, 10, 11, 12, 13, 14, 15] rfl rfl (fun _ => rfl) fun w hh => c_impl_Tape_write w b50 y48 L53 R54 tt61 v55 C57 v56 C58 _ rfl (hh.handed [2, 3, 4] rfl rfl rfl rfl) _ _ _ hr75) (fun k hk => (List.mem_append.1 hk).elim ((sub_bx 0 rfl) k) ((fun k hk => (List.mem_append.1 hk).elim ((sub_mk 1 rfl) k) ((fun k hk => (List.mem_append.1 hk).elim ((sub_mk 2 rfl) k) ((fun k hk => absurd hk List.not_mem_nil) k)) k)) k)) (fun x76 => ?_)
                  obtain ⟨x76_0, x76_1, x76_2, x76_3⟩ := x76
                  refine JD_done (by kernel_rfl) ?_
                  refine N_then ?_
                  refine J_region ?_
                  refine JL_q (wants_none rfl) rfl (ex_move rfl) ?_
                  refine JL_q (wants_none rfl) rfl (ex_move rfl) ?_
                  refine JL_cond (fun h77 => ?_) (fun h77 => ?_)
                  · refine JL_q (wants_some rfl rfl rfl h77) rfl (ex_move rfl) ?_
                    refine JL_q (wants_some rfl rfl rfl h77) rfl (ex_nilCheck rfl) ?_
                    refine JL_q (wants_some rfl rfl rfl h77) rfl (ex_fieldAddr fi_91_0 rfl rfl) ?_
                    refine JL_q (wants_some rfl rfl rfl h77) rfl (ex_load_bx 0 ti_66 rfl rfl (app_at (j := 0) rfl)) ?_
                    refine JL_q (wants_some rfl rfl rfl h77) rfl (ex_len_mk 1 Try.underlying66 rfl rfl) ?_
                    refine JL_q (wants_some rfl rfl rfl h77) rfl (ex_leq rfl rfl) ?_
                    refine JL_q (wants_none rfl) rfl (ex_pick_true rfl h77 rfl) ?_
                    refine JL_q (wants_none rfl) rfl (ex_move rfl) ?_
                    refine JL_cond (fun h78 => ?_) (fun h78 => ?_)
                    · refine JL_q (wants_some rfl rfl rfl h78) rfl (ex_move rfl) ?_
                      refine JL_q (wants_some rfl rfl rfl h78) rfl (ex_nilCheck rfl) ?_
                      refine JL_q (wants_some rfl rfl rfl h78) rfl (ex_fieldAddr fi_91_1 rfl rfl) ?_
                      refine JL_q (wants_some rfl rfl rfl h78) rfl (ex_load_bx 0 ti_66 rfl rfl (app_at (j := 1) rfl)) ?_
                      refine JL_q (wants_some rfl rfl rfl h78) rfl (ex_len_mk 2 Try.underlying66 rfl rfl) ?_
                      refine JL_q (wants_some rfl rfl rfl h78) rfl (ex_leq rfl rfl) ?_
                      refine JL_q (wants_none rfl) rfl (ex_pick_true rfl h78 rfl) ?_
                      refine JL_q (wants_none rfl) rfl (ex_assign rfl) ?_
                      refine JL_nil ?_
                      refine N_block ?_
                      refine N_then ?_
                      refine J_region ?_
                      refine JL_q (wants_none rfl) rfl (ex_add rfl rfl) ?_
                      refine JL_q (wants_none rfl) rfl (ex_move rfl) ?_
                      refine JL_nil ?_
                      refine N_ctx (fun w2_ hh => SH.hole_close (idx_eq hy49).2.1 (GTape.two (⟨r74.2.1, r74.2.2⟩ : GTape)) (show SH _ _ w2_ [.bx b50 tt61 (L53 ++ [x76_0, x76_2] ++ R54), mkr x76_0 r74.2.1 x76_1, mkr x76_2 r74.2.2 x76_3, hol o52 cap51 s45.1 s45.2.2.toNat L53 R54 Ba59 Bb60, .pt q69 y67, .pt q65 y63, .bx b13 32 [.int .i64 s31.1, (.slice (some ⟨b50, o52, none⟩) s45.1.length cap51)], .rd v42.1 y39.Read, .rd v42.2.1 y39.Write, .rd v42.2.2 y39.Move, .bx b44 68 [.int .i64 y39.State, v42.1, v42.2.1, v42.2.2, .int .i64 y39.Next], .bx b3 32 [.int .i64 0, .slice none 0 0], .rd v0_0 p0.Rules, .bx b15 37 [.int .i64 p0.Tapes, .int .i64 p0.Symbols, .int .i64 p0.States, v0_0], mpf Greading.enc (Value.int .i64) b18 s19.1] from hh.sel [0, 1, 2, 5, 3, 4, 7, 8, 9, 10, 11, 12, 13, 14, 15] rfl)) ?_
                      exact N_next' ((.slice (some ⟨b50, o52, none⟩) s45.1.length cap51), (b50 :: (Ba59 ++ (x76_1 ++ x76_3 ++ Bb60)))) ⟨rfl, rfl, rfl, rfl, rfl, trivial⟩ [0, 3, 4, 5, 6, 7, 8, 9, 10, 11] rfl rfl
                    · refine JL_passed rfl rfl rfl h78 ?_
                      refine JL_passed rfl rfl rfl h78 ?_
                      refine JL_passed rfl rfl rfl h78 ?_
                      refine JL_passed rfl rfl rfl h78 ?_
                      refine JL_passed rfl rfl rfl h78 ?_
                      refine JL_passed rfl rfl rfl h78 ?_
                      refine JL_q (wants_none rfl) rfl (ex_pick_false rfl h78 rfl) ?_
                      refine JL_q (wants_none rfl) rfl (ex_assign rfl) ?_
                      refine JL_nil ?_
                      refine N_block ?_
                      refine N_then ?_
                      refine J_region ?_
                      refine JL_q (wants_none rfl) rfl (ex_add rfl rfl) ?_
                      refine JL_q (wants_none rfl) rfl (ex_move rfl) ?_
                      refine JL_nil ?_
                      refine N_ctx (fun w2_ hh => SH.hole_close (idx_eq hy49).2.1 (GTape.two (⟨r74.2.1, r74.2.2⟩ : GTape)) (show SH _ _ w2_ [.bx b50 tt61 (L53 ++ [x76_0, x76_2] ++ R54), mkr x76_0 r74.2.1 x76_1, mkr x76_2 r74.2.2 x76_3, hol o52 cap51 s45.1 s45.2.2.toNat L53 R54 Ba59 Bb60, .pt q69 y67, .pt q65 y63, .bx b13 32 [.int .i64 s31.1, (.slice (some ⟨b50, o52, none⟩) s45.1.length cap51)], .rd v42.1 y39.Read, .rd v42.2.1 y39.Write, .rd v42.2.2 y39.Move, .bx b44 68 [.int .i64 y39.State, v42.1, v42.2.1, v42.2.2, .int .i64 y39.Next], .bx b3 32 [.int .i64 0, .slice none 0 0], .rd v0_0 p0.Rules, .bx b15 37 [.int .i64 p0.Tapes, .int .i64 p0.Symbols, .int .i64 p0.States, v0_0], mpf Greading.enc (Value.int .i64) b18 s19.1] from hh.sel [0, 1, 2, 5, 3, 4, 7, 8, 9, 10, 11, 12, 13, 14, 15] rfl)) ?_
                      exact N_next' ((.slice (some ⟨b50, o52, none⟩) s45.1.length cap51), (b50 :: (Ba59 ++ (x76_1 ++ x76_3 ++ Bb60)))) ⟨rfl, rfl, rfl, rfl, rfl, trivial⟩ [0, 3, 4, 5, 6, 7, 8, 9, 10, 11] rfl rfl
                  · refine JL_passed rfl rfl rfl h77 ?_
                    refine JL_passed rfl rfl rfl h77 ?_
                    refine JL_passed rfl rfl rfl h77 ?_
                    refine JL_passed rfl rfl rfl h77 ?_
                    refine JL_passed rfl rfl rfl h77 ?_
                    refine JL_passed rfl rfl rfl h77 ?_
                    refine JL_q (wants_none rfl) rfl (ex_pick_false rfl h77 rfl) ?_
                    refine JL_q (wants_none rfl) rfl (ex_move rfl) ?_
                    refine JL_passed rfl rfl rfl rfl ?_
                    refine JL_passed rfl rfl rfl rfl ?_
                    refine JL_passed rfl rfl rfl rfl ?_
                    refine JL_passed rfl rfl rfl rfl ?_
                    refine JL_passed rfl rfl rfl rfl ?_
                    refine JL_passed rfl rfl rfl rfl ?_
                    refine JL_q (wants_none rfl) rfl (ex_pick_false rfl rfl rfl) ?_
                    refine JL_q (wants_none rfl) rfl (ex_assign rfl) ?_
                    refine JL_nil ?_
                    refine N_block ?_
                    refine N_then ?_
                    refine J_region ?_
                    refine JL_q (wants_none rfl) rfl (ex_add rfl rfl) ?_
                    refine JL_q (wants_none rfl) rfl (ex_move rfl) ?_
                    refine JL_nil ?_
                    refine N_ctx (fun w2_ hh => SH.hole_close (idx_eq hy49).2.1 (GTape.two (⟨r74.2.1, r74.2.2⟩ : GTape)) (show SH _ _ w2_ [.bx b50 tt61 (L53 ++ [x76_0, x76_2] ++ R54), mkr x76_0 r74.2.1 x76_1, mkr x76_2 r74.2.2 x76_3, hol o52 cap51 s45.1 s45.2.2.toNat L53 R54 Ba59 Bb60, .pt q69 y67, .pt q65 y63, .bx b13 32 [.int .i64 s31.1, (.slice (some ⟨b50, o52, none⟩) s45.1.length cap51)], .rd v42.1 y39.Read, .rd v42.2.1 y39.Write, .rd v42.2.2 y39.Move, .bx b44 68 [.int .i64 y39.State, v42.1, v42.2.1, v42.2.2, .int .i64 y39.Next], .bx b3 32 [.int .i64 0, .slice none 0 0], .rd v0_0 p0.Rules, .bx b15 37 [.int .i64 p0.Tapes, .int .i64 p0.Symbols, .int .i64 p0.States, v0_0], mpf Greading.enc (Value.int .i64) b18 s19.1] from hh.sel [0, 1, 2, 5, 3, 4, 7, 8, 9, 10, 11, 12, 13, 14, 15] rfl)) ?_
                    exact N_next' ((.slice (some ⟨b50, o52, none⟩) s45.1.length cap51), (b50 :: (Ba59 ++ (x76_1 ++ x76_3 ++ Bb60)))) ⟨rfl, rfl, rfl, rfl, rfl, trivial⟩ [0, 3, 4, 5, 6, 7, 8, 9, 10, 11] rfl rfl
                · refine J_exit ?_
                  refine N_then_exit ?_
                  exact N_break' (g46_0, g46_1) ⟨rfl, rfl, rfl, rfl, rfl, trivial⟩ [0, 1, 2, 3, 4, 5, 6, 7, 8, 9] rfl rfl
              · obtain ⟨g46_0, g46_1⟩ := g46
                refine N_then ?_
                refine J_seq ?_
                refine J_region ?_
                refine JL_q (wants_none rfl) rfl (ex_move rfl) ?_
                refine JL_q (wants_none rfl) rfl (ex_fieldAddr fi_68_4 rfl rfl) ?_
                refine JL_q (wants_none rfl) rfl (ex_load_bx 5 ti_2 rfl rfl rfl) ?_
                refine JL_q (wants_none rfl) rfl (ex_nilCheck rfl) ?_
                refine JL_q (wants_none rfl) rfl (ex_fieldAddr fi_32_0 rfl rfl) ?_
                refine JL_sk (wants_none rfl) (sk_store_bx' 1 ti_2 rfl rfl (fun w hh => cv_int) rfl rfl rfl rfl) ?_
                refine JL_nil ?_
                refine N_then ?_
                refine J_seq ?_
                refine J_region ?_
                refine JL_q (wants_none rfl) rfl (ex_move rfl) ?_
                refine JL_q (wants_none rfl) rfl (ex_assign rfl) ?_
                refine JL_nil ?_
                refine N_then ?_
                refine J_ret ?_
                refine N_inl1 hK43 rfl (rv_tmp rfl) ?_
                refine JL_q (wants_none rfl) rfl (ex_not rfl) ?_
                refine JL_nil ?_
                refine N_then ?_
                refine J_if rfl (fun h79 => ?_) (fun h79 => ?_)
                · refine J_seq ?_
                  refine J_region ?_
                  refine JL_q (wants_none rfl) rfl (ex_assign rfl) ?_
                  refine JL_q (wants_none rfl) rfl (ex_assign rfl) ?_
                  refine JL_q (wants_none rfl) rfl (ex_assign rfl) ?_
                  refine JL_nil ?_
                  refine N_then ?_
                  refine J_ret ?_
                  refine N_block_ret ?_
                  refine N_then_ret ?_
                  refine N_round_reti ?_
                  refine N_inl3 hK14 rfl (rv_tmp rfl) (rv_tmp rfl) (rv_tmp rfl) ?_
                  refine JL_q (wants_none rfl) rfl (ex_move rfl) ?_
                  refine JL_q (wants_none rfl) rfl (ex_extract rfl rfl) ?_
                  refine JL_q (wants_none rfl) rfl (ex_extract rfl rfl) ?_
                  refine JL_q (wants_none rfl) rfl (ex_extract rfl rfl) ?_
                  refine JL_q (wants_none rfl) rfl (ex_assign rfl) ?_
                  refine JL_q (wants_none rfl) rfl (ex_assign rfl) ?_
                  refine JL_q (wants_none rfl) rfl (ex_assign rfl) ?_
                  refine JL_nil ?_
                  refine N_then ?_
                  refine J_seq ?_
                  refine J_seq ?_
                  refine J_region ?_
                  refine JL_q (wants_none rfl) rfl (ex_move rfl) ?_
                  refine JL_q (wants_none rfl) rfl (ex_neq rfl rfl) ?_
                  refine JL_nil ?_
                  refine N_then ?_
                  refine J_if_true rfl (by decide) ?_
                  refine J_seq ?_
                  refine J_region ?_
                  refine JL_q (wants_none rfl) rfl (ex_build si_32 rfl .nil (fun w hh => trivial)) ?_
                  refine JL_q (wants_none rfl) rfl (ex_move rfl) ?_
                  refine JL_sk (wants_none rfl) (sk_store_bx' 6 ti_32 rfl rfl (fun w hh => (cv_aggs ⟨cv_int, cv_slice, trivial⟩)) rfl rfl rfl rfl) ?_
                  refine JL_q (wants_none rfl) rfl (ex_assign rfl) ?_
                  refine JL_q (wants_none rfl) rfl (ex_assign rfl) ?_
                  refine JL_q (wants_none rfl) rfl (ex_assign rfl) ?_
                  refine JL_nil ?_
                  refine N_then ?_
                  refine J_ret ?_
                  refine N_then_ret ?_
                  refine N_ctx (fun w hh => SH.od_nil (α := GTape) 91 hh) ?_
                  refine N_ctx (fun w hh => hh.tok 0 rfl) ?_
                  exact N_ret4 rfl (rv_cell 8 rfl rfl ti_32 rfl) (rv_tmp rfl) (rv_tmp rfl) (rv_tmp rfl) (fun w hh => ⟨((.slice none 0 0 : Value), ((.slice none 0 0 : Value).ownBlock.toList ++ [])), rfl, hh.sel [0] rfl⟩)
                · refine J_skip ?_
                  refine N_block ?_
                  refine N_then ?_
                  refine J_region ?_
                  refine JL_q (wants_none rfl) rfl (ex_move rfl) ?_
                  refine JL_q (wants_none rfl) rfl (ex_add rfl rfl) ?_
                  refine JL_q (wants_none rfl) rfl (ex_assign rfl) ?_
                  refine JL_nil ?_
                  exact N_next' (g46_0, g46_1) ⟨rfl, rfl, rfl, rfl, rfl, rfl, trivial⟩ [0, 1, 7, 8, 9, 6] rfl rfl
        · obtain ⟨g32_0, g32_1⟩ := g32
          exact N_none

set_option maxHeartbeats 40000000 in
theorem c_laws_FnExactRunMulti (A : Nat → Prop) (w : World) (hA : ∀ k, A k → k < w.heap.size) (v0_ : Value) (p0 : GMulti) (hp0 : Rd A w v0_ p0) (v1_ : Value) (p1 : GMultiConfig) (hp1 : Rd A w v1_ p1) (p2 : Int) (r : Bool) (hr : F_laws_FnExactRunMulti p0 p1 p2 = some r) :
    Con Try.prog 4 [v0_, v1_, .int .i64 p2] A w (fun x_ : Unit => .bool r) (fun x_ => []) := by
  obtain ⟨v0_0, rfl, hp0_0⟩ := GMulti.open hp0
  obtain ⟨v1_0, rfl, hp1_0⟩ := GMultiConfig.open hp1
  refine Con_of (v := fun (r : Bool) (x_ : Unit) => .bool r) (fs := fun r x_ => []) Try.func4 rfl Try.ntmps4 rfl (((SH.start hA).start_rd rfl hp0_0).start_rd rfl hp1_0) rfl ?_ hr
  unfold F_laws_FnExactRunMulti
  refine J_seq ?_
  refine J_region ?_
  refine JL_st (wants_none rfl) rfl (st_box' rfl (fun w hh => (cv_aggs ⟨cv_int, cv_int, cv_int, (hh.cv 1 rfl), trivial⟩))) (fun b1 => ?_)
  refine JL_st (wants_none rfl) rfl (st_box' rfl (fun w hh => (cv_aggs ⟨cv_int, (hh.cv 1 rfl), trivial⟩))) (fun b2 => ?_)
  refine JL_q (wants_none rfl) rfl (ex_assign rfl) ?_
  refine JL_nil ?_
  refine N_then ?_
  refine J_seq ?_
  refine J_region ?_
  refine JL_q (wants_none rfl) rfl (ex_assign rfl) ?_
  refine JL_nil ?_
  refine N_then ?_
  refine J_seq ?_
  refine J_region ?_
  refine JL_q (wants_none rfl) rfl (ex_load_bx_agg 1 ti_24 rfl rfl rfl rfl) ?_
  refine JL_q (wants_none rfl) rfl (ex_move rfl) ?_
  refine JL_bnd fun r3 hr4 => ?_
  refine JL_call (wants_none rfl) rfl Try.call6 rfl (Ca_of0 fun w hh => c_laws_szMulti _ w (fun _ hk => hk.elim) _ _ (GMulti.rdmk (Rd.mk_int _ _ _) (Rd.mk_int _ _ _) (Rd.mk_int _ _ _) (hh.rd0 3 rfl)) _ _ hr4) (fun _ => ?_)
  refine JL_q (wants_none rfl) rfl (ex_assign rfl) ?_
  refine JL_nil ?_
  refine N_then ?_
  refine J_seq ?_
  refine J_seq ?_
  refine J_region ?_
  refine JL_q (wants_none rfl) rfl (ex_move rfl) ?_
  refine JL_q (wants_none rfl) rfl (ex_lss rfl rfl) ?_
  refine JL_nil ?_
  refine N_then ?_
  refine J_if rfl (fun h5 => ?_) (fun h5 => ?_)
  · refine J_seq ?_
    refine J_region ?_
    refine JL_q (wants_none rfl) rfl (ex_assign rfl) ?_
    refine JL_nil ?_
    refine N_then ?_
    refine J_ret ?_
    refine N_then_ret ?_
    exact N_ret1 rfl (rv_tmp rfl) (fun w hh => ⟨(), rfl, hh.sel [] rfl⟩)
  · refine J_skip ?_
    refine N_then ?_
    refine J_seq ?_
    refine J_region ?_
    refine JL_q (wants_none rfl) rfl (ex_load_bx_agg 0 ti_27 rfl rfl rfl rfl) ?_
    refine JL_q (wants_none rfl) rfl (ex_move rfl) ?_
    refine JL_bnd fun r6 hr7 => ?_
    refine JL_call (wants_none rfl) rfl Try.call7 rfl (Ca_of0 fun w hh => c_laws_szMultiConfig _ w (fun _ hk => hk.elim) _ _ (GMultiConfig.rdmk (Rd.mk_int _ _ _) (hh.rd0 2 rfl)) _ _ hr7) (fun _ => ?_)
    refine JL_q (wants_none rfl) rfl (ex_assign rfl) ?_
    refine JL_nil ?_
    refine N_then ?_
    refine J_seq ?_
    refine J_seq ?_
    refine J_region ?_
    refine JL_q (wants_none rfl) rfl (ex_move rfl) ?_
    refine JL_q (wants_none rfl) rfl (ex_lss rfl rfl) ?_
    refine JL_nil ?_
    refine N_then ?_
    refine J_if rfl (fun h8 => ?_) (fun h8 => ?_)
    · refine J_seq ?_
      refine J_region ?_
      refine JL_q (wants_none rfl) rfl (ex_assign rfl) ?_
      refine JL_nil ?_
      refine N_then ?_
      refine J_ret ?_
      refine N_then_ret ?_
      exact N_ret1 rfl (rv_tmp rfl) (fun w hh => ⟨(), rfl, hh.sel [] rfl⟩)
    · refine J_skip ?_
      refine N_then ?_
      refine J_seq ?_
      refine J_cut' (S' := Int × (List GTape) × Int × Bool × Int) (G' := Value × List Nat × Nat) (fun s9 g10 => [(2, .int .i64 p2), (3, .pointer (some ⟨b1, 0, none⟩)), (4, .pointer (some ⟨b2, 0, none⟩)), (8, .pointer (some ⟨g10.2.2, 0, none⟩)), (9, .int .i64 s9.2.2.1), (10, .bool s9.2.2.2.1), (11, .int .i64 s9.2.2.2.2)]) (fun s9 g10 => [.rd v0_0 p0.Rules, .bx b1 24 [.int .i64 p0.Tapes, .int .i64 p0.Symbols, .int .i64 p0.States, v0_0], .rd v1_0 p1.Tapes, .bx b2 27 [.int .i64 p1.State, v1_0], .od 91 g10.1 s9.2.1 g10.2.1, .bx g10.2.2 32 [.int .i64 s9.1, g10.1]]) ?_ (fun s9 g10 => ?_)
      · refine J_draw [] (by kernel_rfl) ?_
        refine JP_take (i := 0) [0, 1, 2, 3] [] rfl (by kernel_rfl) (by kernel_rfl) (by kernel_rfl) rfl rfl (wants_none rfl) rfl (ex_load_bx_agg 1 ti_24 rfl rfl rfl rfl) ?_
        refine JP_take (i := 2) [0, 1, 2, 3] [] rfl (by kernel_rfl) (by kernel_rfl) (by kernel_rfl) rfl rfl (wants_none rfl) rfl (ex_load_bx_agg 0 ti_27 rfl rfl rfl rfl) ?_
        refine JP_take (i := 4) [0, 1, 2, 3] [] rfl (by kernel_rfl) (by kernel_rfl) (by kernel_rfl) rfl rfl (wants_none rfl) rfl (ex_move rfl) ?_
        refine JP_go [0, 1, 2, 3] [] rfl rfl rfl (fun w12 h1_13 hp11 => ?_)
        refine JD_bnd fun r14 hr15 => ?_
        refine JD_two (i := 1) (j := 11) (by kernel_rfl) ?_ ?_
        · refine JO_call rfl (wants_none rfl) rfl Try.call9 rfl (Ca_self (fun _ => rfl) fun w hh => c_laws_toMulti _ w (fun _ hk => hk.elim) _ _ (GMulti.rdmk (Rd.mk_int _ _ _) (Rd.mk_int _ _ _) (Rd.mk_int _ _ _) (hh.rd0 3 rfl)) _ hr15) (fun x16 => ?_)
          obtain ⟨x16_0, x16_1⟩ := x16
          refine JD_bnd fun r17 hr18 => ?_
          refine JD_two (i := 3) (j := 11) (by kernel_rfl) ?_ ?_
          · refine JO_call rfl (wants_none rfl) rfl Try.call10 rfl (Ca_self (fun _ => rfl) fun w hh => c_laws_toMultiConfig _ w (fun _ hk => hk.elim) _ _ (GMultiConfig.rdmk (Rd.mk_int _ _ _) (hh.rd0 3 rfl)) _ hr18) (fun x19 => ?_)
            obtain ⟨x19_0, x19_1⟩ := x19
            refine JD_bnd fun r20 hr21 => ?_
            refine JD_two (i := 5) (j := 11) (by kernel_rfl) ?_ ?_
            · refine JO_call rfl (wants_none rfl) rfl Try.call17 rfl (Ca_self (fun _ => rfl) fun w hh => c_spec_RunMulti _ w (fun _ hk => hk.elim) _ _ (GMulti.rdmk (Rd.mk_int _ _ _) (Rd.mk_int _ _ _) (Rd.mk_int _ _ _) (hh.od0 1 rfl)) _ _ (GMultiConfig.rdmk (Rd.mk_int _ _ _) (hh.od0 0 rfl)) _ _ hr21) (fun x22 => ?_)
              obtain ⟨x22_0, x22_1⟩ := x22
              refine JD_take (i := 6) hp11 rfl (by kernel_rfl) (by kernel_rfl) (by kernel_rfl) (wants_none rfl) rfl (ex_move rfl) ?_
              refine JD_take (i := 7) hp11 rfl (by kernel_rfl) (by kernel_rfl) (by kernel_rfl) (wants_none rfl) rfl (ex_extract rfl rfl) ?_
              refine JD_take (i := 8) hp11 rfl (by kernel_rfl) (by kernel_rfl) (by kernel_rfl) (wants_none rfl) rfl (ex_extract rfl rfl) ?_
              refine JD_take (i := 9) hp11 rfl (by kernel_rfl) (by kernel_rfl) (by kernel_rfl) (wants_none rfl) rfl (ex_extract rfl rfl) ?_
              refine JD_take (i := 10) hp11 rfl (by kernel_rfl) (by kernel_rfl) (by kernel_rfl) (wants_none rfl) rfl (ex_extract rfl rfl) ?_
              refine JD_one (i := 11) (by kernel_rfl) ?_
              refine JO_st rfl (wants_none rfl) rfl (st_alloc zi_32 rfl) (fun _ hk => nomatch hk) (fun b23 => ?_)
              refine JD_one (i := 12) (by kernel_rfl) ?_
              refine JO_sk2 0 [] [0, 1, 2, 3] [4, 5, 6, 7] rfl rfl rfl rfl rfl rfl (wants_none rfl) (sk_store_bx' 0 ti_32 rfl rfl (fun w hh => (cv_aggs ⟨cv_int, (hh.cv_od 1 rfl), trivial⟩)) rfl rfl rfl rfl) (fun _ hk => hk) ?_
              refine JD_take (i := 13) hp11 rfl (by kernel_rfl) (by kernel_rfl) (by kernel_rfl) (wants_none rfl) rfl (ex_assign rfl) ?_
              refine JD_take (i := 14) hp11 rfl (by kernel_rfl) (by kernel_rfl) (by kernel_rfl) (wants_none rfl) rfl (ex_assign rfl) ?_
              refine JD_take (i := 15) hp11 rfl (by kernel_rfl) (by kernel_rfl) (by kernel_rfl) (wants_none rfl) rfl (ex_assign rfl) ?_
              refine JD_done (by kernel_rfl) ?_
              exact N_meet' (x22_0, x22_1, b23) ⟨rfl, rfl, rfl, rfl, rfl, rfl, rfl, trivial⟩ [7, 5, 6, 4, 1, 0] rfl rfl
            · refine JO_st rfl (wants_none rfl) rfl (st_alloc zi_32 rfl) (fun _ hk => nomatch hk) (fun b24 => ?_)
              refine JD_one (i := 5) (by kernel_rfl) ?_
              refine JO_call rfl (wants_none rfl) rfl Try.call17 rfl (Ca_self (fun _ => rfl) fun w hh => c_spec_RunMulti _ w (fun _ hk => hk.elim) _ _ (GMulti.rdmk (Rd.mk_int _ _ _) (Rd.mk_int _ _ _) (Rd.mk_int _ _ _) (hh.od0 2 rfl)) _ _ (GMultiConfig.rdmk (Rd.mk_int _ _ _) (hh.od0 1 rfl)) _ _ hr21) (fun x25 => ?_)
              obtain ⟨x25_0, x25_1⟩ := x25
              refine JD_take (i := 6) hp11 rfl (by kernel_rfl) (by kernel_rfl) (by kernel_rfl) (wants_none rfl) rfl (ex_move rfl) ?_
              refine JD_take (i := 7) hp11 rfl (by kernel_rfl) (by kernel_rfl) (by kernel_rfl) (wants_none rfl) rfl (ex_extract rfl rfl) ?_
              refine JD_take (i := 8) hp11 rfl (by kernel_rfl) (by kernel_rfl) (by kernel_rfl) (wants_none rfl) rfl (ex_extract rfl rfl) ?_
              refine JD_take (i := 9) hp11 rfl (by kernel_rfl) (by kernel_rfl) (by kernel_rfl) (wants_none rfl) rfl (ex_extract rfl rfl) ?_
              refine JD_take (i := 10) hp11 rfl (by kernel_rfl) (by kernel_rfl) (by kernel_rfl) (wants_none rfl) rfl (ex_extract rfl rfl) ?_
              refine JD_one (i := 12) (by kernel_rfl) ?_
              refine JO_sk2 1 [] [0, 1, 2, 3] [4, 5, 6, 7] rfl rfl rfl rfl rfl rfl (wants_none rfl) (sk_store_bx' 1 ti_32 rfl rfl (fun w hh => (cv_aggs ⟨cv_int, (hh.cv_od 0 rfl), trivial⟩)) rfl rfl rfl rfl) (fun _ hk => hk) ?_
              refine JD_take (i := 13) hp11 rfl (by kernel_rfl) (by kernel_rfl) (by kernel_rfl) (wants_none rfl) rfl (ex_assign rfl) ?_
              refine JD_take (i := 14) hp11 rfl (by kernel_rfl) (by kernel_rfl) (by kernel_rfl) (wants_none rfl) rfl (ex_assign rfl) ?_
              refine JD_take (i := 15) hp11 rfl (by kernel_rfl) (by kernel_rfl) (by kernel_rfl) (wants_none rfl) rfl (ex_assign rfl) ?_
              refine JD_done (by kernel_rfl) ?_
              exact N_meet' (x25_0, x25_1, b24) ⟨rfl, rfl, rfl, rfl, rfl, rfl, rfl, trivial⟩ [7, 5, 6, 4, 0, 1] rfl rfl
          · refine JO_st rfl (wants_none rfl) rfl (st_alloc zi_32 rfl) (fun _ hk => nomatch hk) (fun b26 => ?_)
            refine JD_one (i := 3) (by kernel_rfl) ?_
            refine JO_call rfl (wants_none rfl) rfl Try.call10 rfl (Ca_self (fun _ => rfl) fun w hh => c_laws_toMultiConfig _ w (fun _ hk => hk.elim) _ _ (GMultiConfig.rdmk (Rd.mk_int _ _ _) (hh.rd0 4 rfl)) _ hr18) (fun x27 => ?_)
            obtain ⟨x27_0, x27_1⟩ := x27
            refine JD_bnd fun r28 hr29 => ?_
            refine JD_one (i := 5) (by kernel_rfl) ?_
            refine JO_call rfl (wants_none rfl) rfl Try.call17 rfl (Ca_self (fun _ => rfl) fun w hh => c_spec_RunMulti _ w (fun _ hk => hk.elim) _ _ (GMulti.rdmk (Rd.mk_int _ _ _) (Rd.mk_int _ _ _) (Rd.mk_int _ _ _) (hh.od0 2 rfl)) _ _ (GMultiConfig.rdmk (Rd.mk_int _ _ _) (hh.od0 0 rfl)) _ _ hr29) (fun x30 => ?_)
            obtain ⟨x30_0, x30_1⟩ := x30
            refine JD_take (i := 6) hp11 rfl (by kernel_rfl) (by kernel_rfl) (by kernel_rfl) (wants_none rfl) rfl (ex_move rfl) ?_
            refine JD_take (i := 7) hp11 rfl (by kernel_rfl) (by kernel_rfl) (by kernel_rfl) (wants_none rfl) rfl (ex_extract rfl rfl) ?_
            refine JD_take (i := 8) hp11 rfl (by kernel_rfl) (by kernel_rfl) (by kernel_rfl) (wants_none rfl) rfl (ex_extract rfl rfl) ?_
            refine JD_take (i := 9) hp11 rfl (by kernel_rfl) (by kernel_rfl) (by kernel_rfl) (wants_none rfl) rfl (ex_extract rfl rfl) ?_
            refine JD_take (i := 10) hp11 rfl (by kernel_rfl) (by kernel_rfl) (by kernel_rfl) (wants_none rfl) rfl (ex_extract rfl rfl) ?_
            refine JD_one (i := 12) (by kernel_rfl) ?_
            refine JO_sk2 2 [] [0, 1, 2, 3] [4, 5, 6, 7] rfl rfl rfl rfl rfl rfl (wants_none rfl) (sk_store_bx' 2 ti_32 rfl rfl (fun w hh => (cv_aggs ⟨cv_int, (hh.cv_od 0 rfl), trivial⟩)) rfl rfl rfl rfl) (fun _ hk => hk) ?_
            refine JD_take (i := 13) hp11 rfl (by kernel_rfl) (by kernel_rfl) (by kernel_rfl) (wants_none rfl) rfl (ex_assign rfl) ?_
            refine JD_take (i := 14) hp11 rfl (by kernel_rfl) (by kernel_rfl) (by kernel_rfl) (wants_none rfl) rfl (ex_assign rfl) ?_
            refine JD_take (i := 15) hp11 rfl (by kernel_rfl) (by kernel_rfl) (by kernel_rfl) (wants_none rfl) rfl (ex_assign rfl) ?_
            refine JD_done (by kernel_rfl) ?_
            exact N_meet' (x30_0, x30_1, b26) ⟨rfl, rfl, rfl, rfl, rfl, rfl, rfl, trivial⟩ [7, 5, 6, 4, 0, 2] rfl rfl
        · refine JO_st rfl (wants_none rfl) rfl (st_alloc zi_32 rfl) (fun _ hk => nomatch hk) (fun b31 => ?_)
          refine JD_one (i := 1) (by kernel_rfl) ?_
          refine JO_call rfl (wants_none rfl) rfl Try.call9 rfl (Ca_self (fun _ => rfl) fun w hh => c_laws_toMulti _ w (fun _ hk => hk.elim) _ _ (GMulti.rdmk (Rd.mk_int _ _ _) (Rd.mk_int _ _ _) (Rd.mk_int _ _ _) (hh.rd0 4 rfl)) _ hr15) (fun x32 => ?_)
          obtain ⟨x32_0, x32_1⟩ := x32
          refine JD_bnd fun r33 hr34 => ?_
          refine JD_one (i := 3) (by kernel_rfl) ?_
          refine JO_call rfl (wants_none rfl) rfl Try.call10 rfl (Ca_self (fun _ => rfl) fun w hh => c_laws_toMultiConfig _ w (fun _ hk => hk.elim) _ _ (GMultiConfig.rdmk (Rd.mk_int _ _ _) (hh.rd0 4 rfl)) _ hr34) (fun x35 => ?_)
          obtain ⟨x35_0, x35_1⟩ := x35
          refine JD_bnd fun r36 hr37 => ?_
          refine JD_one (i := 5) (by kernel_rfl) ?_
          refine JO_call rfl (wants_none rfl) rfl Try.call17 rfl (Ca_self (fun _ => rfl) fun w hh => c_spec_RunMulti _ w (fun _ hk => hk.elim) _ _ (GMulti.rdmk (Rd.mk_int _ _ _) (Rd.mk_int _ _ _) (Rd.mk_int _ _ _) (hh.od0 1 rfl)) _ _ (GMultiConfig.rdmk (Rd.mk_int _ _ _) (hh.od0 0 rfl)) _ _ hr37) (fun x38 => ?_)
          obtain ⟨x38_0, x38_1⟩ := x38
          refine JD_take (i := 6) hp11 rfl (by kernel_rfl) (by kernel_rfl) (by kernel_rfl) (wants_none rfl) rfl (ex_move rfl) ?_
          refine JD_take (i := 7) hp11 rfl (by kernel_rfl) (by kernel_rfl) (by kernel_rfl) (wants_none rfl) rfl (ex_extract rfl rfl) ?_
          refine JD_take (i := 8) hp11 rfl (by kernel_rfl) (by kernel_rfl) (by kernel_rfl) (wants_none rfl) rfl (ex_extract rfl rfl) ?_
          refine JD_take (i := 9) hp11 rfl (by kernel_rfl) (by kernel_rfl) (by kernel_rfl) (wants_none rfl) rfl (ex_extract rfl rfl) ?_
          refine JD_take (i := 10) hp11 rfl (by kernel_rfl) (by kernel_rfl) (by kernel_rfl) (wants_none rfl) rfl (ex_extract rfl rfl) ?_
          refine JD_one (i := 12) (by kernel_rfl) ?_
          refine JO_sk2 3 [] [0, 1, 2, 3] [4, 5, 6, 7] rfl rfl rfl rfl rfl rfl (wants_none rfl) (sk_store_bx' 3 ti_32 rfl rfl (fun w hh => (cv_aggs ⟨cv_int, (hh.cv_od 0 rfl), trivial⟩)) rfl rfl rfl rfl) (fun _ hk => hk) ?_
          refine JD_take (i := 13) hp11 rfl (by kernel_rfl) (by kernel_rfl) (by kernel_rfl) (wants_none rfl) rfl (ex_assign rfl) ?_
          refine JD_take (i := 14) hp11 rfl (by kernel_rfl) (by kernel_rfl) (by kernel_rfl) (wants_none rfl) rfl (ex_assign rfl) ?_
          refine JD_take (i := 15) hp11 rfl (by kernel_rfl) (by kernel_rfl) (by kernel_rfl) (wants_none rfl) rfl (ex_assign rfl) ?_
          refine JD_done (by kernel_rfl) ?_
          exact N_meet' (x38_0, x38_1, b31) ⟨rfl, rfl, rfl, rfl, rfl, rfl, rfl, trivial⟩ [7, 5, 6, 4, 0, 3] rfl rfl
      · obtain ⟨g10_0, g10_1, g10_2⟩ := g10
        refine N_then ?_
        refine J_seq ?_
        refine J_region ?_
        refine JL_q (wants_none rfl) rfl (ex_load_bx_agg 1 ti_24 rfl rfl rfl rfl) ?_
        refine JL_bnd fun r39 hr40 => ?_
        refine JL_call (wants_none rfl) rfl Try.call9 rfl (Ca_self (fun _ => rfl) fun w hh => c_laws_toMulti _ w (fun _ hk => hk.elim) _ _ (GMulti.rdmk (Rd.mk_int _ _ _) (Rd.mk_int _ _ _) (Rd.mk_int _ _ _) (hh.rd0 0 rfl)) _ hr40) (fun x41 => ?_)
        obtain ⟨x41_0, x41_1⟩ := x41
        refine JL_st (wants_none rfl) rfl (st_alloc zi_37 rfl) (fun b42 => ?_)
        refine JL_sk (wants_none rfl) (sk_store_bx' 0 ti_37 rfl rfl (fun w hh => (cv_aggs ⟨cv_int, cv_int, cv_int, (hh.cv_od 1 rfl), trivial⟩)) rfl rfl rfl rfl) ?_
        refine JL_nil ?_
        refine N_then ?_
        refine J_seq ?_
        refine J_region ?_
        refine JL_q (wants_none rfl) rfl (ex_load_bx_agg 5 ti_27 rfl rfl rfl rfl) ?_
        refine JL_bnd fun r43 hr44 => ?_
        refine JL_call (wants_none rfl) rfl Try.call10 rfl (Ca_self (fun _ => rfl) fun w hh => c_laws_toMultiConfig _ w (fun _ hk => hk.elim) _ _ (GMultiConfig.rdmk (Rd.mk_int _ _ _) (hh.rd0 4 rfl)) _ hr44) (fun x45 => ?_)
        obtain ⟨x45_0, x45_1⟩ := x45
        refine JL_st (wants_none rfl) rfl (st_alloc zi_32 rfl) (fun b46 => ?_)
        refine JL_sk (wants_none rfl) (sk_store_bx' 0 ti_32 rfl rfl (fun w hh => (cv_aggs ⟨cv_int, (hh.cv_od 1 rfl), trivial⟩)) rfl rfl rfl rfl) ?_
        refine JL_nil ?_
        refine N_then ?_
        refine J_seq ?_
        refine J_region ?_
        refine JL_q (wants_none rfl) rfl (ex_load_bx_agg 2 ti_37 rfl rfl rfl rfl) ?_
        refine JL_q (wants_none rfl) rfl (ex_load_bx_agg 0 ti_32 rfl rfl rfl rfl) ?_
        refine JL_q (wants_none rfl) rfl (ex_move rfl) ?_
        refine JL_bnd fun r47 hr48 => ?_
        refine JL_call (wants_none rfl) rfl Try.call18 rfl (Ca_self (fun _ => rfl) fun w hh => c_impl_RunMulti _ w (fun _ hk => hk.elim) _ _ (GMulti.rdmk (Rd.mk_int _ _ _) (Rd.mk_int _ _ _) (Rd.mk_int _ _ _) (hh.od0 3 rfl)) _ _ (GMultiConfig.rdmk (Rd.mk_int _ _ _) (hh.od0 1 rfl)) _ _ hr48) (fun x49 => ?_)
        obtain ⟨x49_0, x49_1⟩ := x49
        refine JL_ctx (fun w hh => hh.tkn_rd 0 rfl) ?_
        refine JL_q (wants_none rfl) rfl (ex_move rfl) ?_
        refine JL_q (wants_none rfl) rfl (ex_extract rfl rfl) ?_
        refine JL_q (wants_none rfl) rfl (ex_extract rfl rfl) ?_
        refine JL_q (wants_none rfl) rfl (ex_extract rfl rfl) ?_
        refine JL_q (wants_none rfl) rfl (ex_extract rfl rfl) ?_
        refine JL_st (wants_none rfl) rfl (st_alloc zi_32 rfl) (fun b50 => ?_)
        refine JL_sk (wants_none rfl) (sk_store_bx' 0 ti_32 rfl rfl (fun w hh => (cv_aggs ⟨cv_int, (hh.cv 1 rfl), trivial⟩)) rfl rfl rfl rfl) ?_
        refine JL_q (wants_none rfl) rfl (ex_assign rfl) ?_
        refine JL_q (wants_none rfl) rfl (ex_assign rfl) ?_
        refine JL_q (wants_none rfl) rfl (ex_assign rfl) ?_
        refine JL_nil ?_
        refine N_then ?_
        refine J_seq ?_
        refine J_cut' (S' := Unit) (G' := Unit) (fun _ _ => [(2, .int .i64 p2), (3, .pointer (some ⟨b1, 0, none⟩)), (4, .pointer (some ⟨b2, 0, none⟩)), (8, .pointer (some ⟨g10_2, 0, none⟩)), (9, .int .i64 s9.2.2.1), (10, .bool s9.2.2.2.1), (11, .int .i64 s9.2.2.2.2), (12, .pointer (some ⟨b42, 0, none⟩)), (13, .pointer (some ⟨b46, 0, none⟩)), (14, .pointer (some ⟨b50, 0, none⟩)), (15, .int .i64 r47.2.1), (16, .bool r47.2.2.1), (17, .int .i64 r47.2.2.2)]) (fun _ _ => [.rd v0_0 p0.Rules, .bx b1 24 [.int .i64 p0.Tapes, .int .i64 p0.Symbols, .int .i64 p0.States, v0_0], .rd v1_0 p1.Tapes, .bx b2 27 [.int .i64 p1.State, v1_0], .od 91 g10_0 s9.2.1 g10_1, .bx g10_2 32 [.int .i64 s9.1, g10_0], .od 68 x41_0 r39.Rules x41_1, .bx b42 37 [.int .i64 r39.Tapes, .int .i64 r39.Symbols, .int .i64 r39.States, x41_0], .od 91 x45_0 r43.Tapes x45_1, .bx b46 32 [.int .i64 r43.State, x45_0], .rd x49_0 r47.1.Tapes, .tkn x49_0 r47.1.Tapes x49_1, .bx b50 32 [.int .i64 r47.1.State, x49_0]]) ?_ (fun s51 g52 => ?_)
        · refine J_seq ?_
          refine J_region ?_
          refine JL_q (wants_none rfl) rfl (ex_load_bx_agg 0 ti_32 rfl rfl rfl rfl) ?_
          refine JL_q (wants_none rfl) rfl (ex_load_bx_agg 12 ti_32 rfl rfl rfl rfl) ?_
          refine JL_bnd fun r53 hr54 => ?_
          refine JL_call (wants_none rfl) rfl Try.call12 rfl (Ca_of0 fun w hh => c_laws_eqMultiConfig _ w (fun _ hk => hk.elim) _ _ (GMultiConfig.rdmk (Rd.mk_int _ _ _) (hh.rd0 1 rfl)) _ _ (GMultiConfig.rdmk (Rd.mk_int _ _ _) (hh.od0 11 rfl)) _ hr54) (fun _ => ?_)
          refine JL_q (wants_none rfl) rfl (ex_not rfl) ?_
          refine JL_q (wants_none rfl) rfl (ex_move rfl) ?_
          refine JL_cond (fun h55 => ?_) (fun h55 => ?_)
          · refine JL_passed rfl rfl rfl h55 ?_
            refine JL_passed rfl rfl rfl h55 ?_
            refine JL_passed rfl rfl rfl h55 ?_
            refine JL_q (wants_none rfl) rfl (ex_pick_true rfl h55 rfl) ?_
            refine JL_q (wants_none rfl) rfl (ex_move rfl) ?_
            refine JL_passed rfl rfl rfl rfl ?_
            refine JL_passed rfl rfl rfl rfl ?_
            refine JL_passed rfl rfl rfl rfl ?_
            refine JL_q (wants_none rfl) rfl (ex_pick_true rfl rfl rfl) ?_
            refine JL_q (wants_none rfl) rfl (ex_move rfl) ?_
            refine JL_passed rfl rfl rfl rfl ?_
            refine JL_passed rfl rfl rfl rfl ?_
            refine JL_passed rfl rfl rfl rfl ?_
            refine JL_q (wants_none rfl) rfl (ex_pick_true rfl rfl rfl) ?_
            refine JL_nil ?_
            refine N_then ?_
            refine J_if_true rfl rfl ?_
            refine J_seq ?_
            refine J_region ?_
            refine JL_q (wants_none rfl) rfl (ex_assign rfl) ?_
            refine JL_nil ?_
            refine N_then ?_
            refine J_ret ?_
            refine N_mid_ret ?_
            refine N_then_ret ?_
            exact N_ret1 rfl (rv_tmp rfl) (fun w hh => ⟨(), rfl, hh.sel [] rfl⟩)
          · refine JL_q (wants_some rfl rfl rfl h55) rfl (ex_move rfl) ?_
            refine JL_q (wants_some rfl rfl rfl h55) rfl (ex_move rfl) ?_
            refine JL_q (wants_some rfl rfl rfl h55) rfl (ex_neq rfl rfl) ?_
            refine JL_q (wants_none rfl) rfl (ex_pick_false rfl h55 rfl) ?_
            refine JL_q (wants_none rfl) rfl (ex_move rfl) ?_
            refine JL_cond (fun h56 => ?_) (fun h56 => ?_)
            · refine JL_passed rfl rfl rfl h56 ?_
              refine JL_passed rfl rfl rfl h56 ?_
              refine JL_passed rfl rfl rfl h56 ?_
              refine JL_q (wants_none rfl) rfl (ex_pick_true rfl h56 rfl) ?_
              refine JL_q (wants_none rfl) rfl (ex_move rfl) ?_
              refine JL_passed rfl rfl rfl rfl ?_
              refine JL_passed rfl rfl rfl rfl ?_
              refine JL_passed rfl rfl rfl rfl ?_
              refine JL_q (wants_none rfl) rfl (ex_pick_true rfl rfl rfl) ?_
              refine JL_nil ?_
              refine N_then ?_
              refine J_if_true rfl rfl ?_
              refine J_seq ?_
              refine J_region ?_
              refine JL_q (wants_none rfl) rfl (ex_assign rfl) ?_
              refine JL_nil ?_
              refine N_then ?_
              refine J_ret ?_
              refine N_mid_ret ?_
              refine N_then_ret ?_
              exact N_ret1 rfl (rv_tmp rfl) (fun w hh => ⟨(), rfl, hh.sel [] rfl⟩)
            · refine JL_q (wants_some rfl rfl rfl h56) rfl (ex_move rfl) ?_
              refine JL_q (wants_some rfl rfl rfl h56) rfl (ex_move rfl) ?_
              refine JL_q (wants_some rfl rfl rfl h56) rfl (ex_neq_bool Try.underlying4 rfl rfl) ?_
              refine JL_q (wants_none rfl) rfl (ex_pick_false rfl h56 rfl) ?_
              refine JL_q (wants_none rfl) rfl (ex_move rfl) ?_
              refine JL_cond (fun h57 => ?_) (fun h57 => ?_)
              · refine JL_passed rfl rfl rfl h57 ?_
                refine JL_passed rfl rfl rfl h57 ?_
                refine JL_passed rfl rfl rfl h57 ?_
                refine JL_q (wants_none rfl) rfl (ex_pick_true rfl h57 rfl) ?_
                refine JL_nil ?_
                refine N_then ?_
                refine J_if_true rfl rfl ?_
                refine J_seq ?_
                refine J_region ?_
                refine JL_q (wants_none rfl) rfl (ex_assign rfl) ?_
                refine JL_nil ?_
                refine N_then ?_
                refine J_ret ?_
                refine N_mid_ret ?_
                refine N_then_ret ?_
                exact N_ret1 rfl (rv_tmp rfl) (fun w hh => ⟨(), rfl, hh.sel [] rfl⟩)
              · refine JL_q (wants_some rfl rfl rfl h57) rfl (ex_move rfl) ?_
                refine JL_q (wants_some rfl rfl rfl h57) rfl (ex_move rfl) ?_
                refine JL_q (wants_some rfl rfl rfl h57) rfl (ex_neq rfl rfl) ?_
                refine JL_q (wants_none rfl) rfl (ex_pick_false rfl h57 rfl) ?_
                refine JL_nil ?_
                refine N_then ?_
                refine J_if rfl (fun h58 => ?_) (fun h58 => ?_)
                · refine J_seq ?_
                  refine J_region ?_
                  refine JL_q (wants_none rfl) rfl (ex_assign rfl) ?_
                  refine JL_nil ?_
                  refine N_then ?_
                  refine J_ret ?_
                  refine N_mid_ret ?_
                  refine N_then_ret ?_
                  exact N_ret1 rfl (rv_tmp rfl) (fun w hh => ⟨(), rfl, hh.sel [] rfl⟩)
                · refine J_skip ?_
                  exact N_meet' () ⟨rfl, rfl, rfl, rfl, rfl, rfl, rfl, rfl, rfl, rfl, rfl, rfl, rfl, trivial⟩ [7, 8, 9, 10, 11, 12, 6, 5, 4, 3, 1, 2, 0] rfl rfl
        · refine N_then ?_
          refine J_seq ?_
          refine J_seq ?_
          refine J_draw [] (by kernel_rfl) ?_
          refine JP_take (i := 0) [0, 1, 2, 3, 4, 5, 6, 7, 8, 9, 10, 11, 12] [] rfl (by kernel_rfl) (by kernel_rfl) (by kernel_rfl) rfl rfl (wants_none rfl) rfl (ex_load_bx_agg 7 ti_37 rfl rfl rfl rfl) ?_
          refine JP_take (i := 1) [0, 1, 2, 3, 4, 5, 6, 7, 8, 9, 10, 11, 12] [] rfl (by kernel_rfl) (by kernel_rfl) (by kernel_rfl) rfl rfl (wants_none rfl) rfl (ex_load_bx_agg 1 ti_24 rfl rfl rfl rfl) ?_
          refine JP_go [0, 1, 2, 3, 4, 5, 6, 7, 8, 9, 10, 11, 12] [] rfl rfl rfl (fun w60 h1_61 hp59 => ?_)
          refine JD_bnd fun r62 hr63 => ?_
          refine JD_one (i := 2) (by kernel_rfl) ?_
          refine JO_call rfl (wants_none rfl) rfl Try.call9 rfl (Ca_self (fun _ => rfl) fun w hh => c_laws_toMulti _ w (fun _ hk => hk.elim) _ _ (GMulti.rdmk (Rd.mk_int _ _ _) (Rd.mk_int _ _ _) (Rd.mk_int _ _ _) (hh.rd0 0 rfl)) _ hr63) (fun x64 => ?_)
          obtain ⟨x64_0, x64_1⟩ := x64
          refine JD_bnd fun r65 hr66 => ?_
          refine JD_one (i := 3) (by kernel_rfl) ?_
          refine JO_call rfl (wants_none rfl) rfl Try.call13 rfl (Ca_of0 fun w hh => c_laws_eqMulti _ w (fun _ hk => hk.elim) _ _ (GMulti.rdmk (Rd.mk_int _ _ _) (Rd.mk_int _ _ _) (Rd.mk_int _ _ _) (hh.od0 7 rfl)) _ _ (GMulti.rdmk (Rd.mk_int _ _ _) (Rd.mk_int _ _ _) (Rd.mk_int _ _ _) (hh.od0 0 rfl)) _ hr66) (fun _ => ?_)
          refine JD_take (i := 4) hp59 rfl (by kernel_rfl) (by kernel_rfl) (by kernel_rfl) (wants_none rfl) rfl (ex_not rfl) ?_
          refine JD_done (by kernel_rfl) ?_
          refine N_then ?_
          refine J_if rfl (fun h67 => ?_) (fun h67 => ?_)
          · refine J_seq ?_
            refine J_region ?_
            refine JL_q (wants_none rfl) rfl (ex_assign rfl) ?_
            refine JL_nil ?_
            refine N_then ?_
            refine J_ret ?_
            refine N_then_ret ?_
            exact N_ret1 rfl (rv_tmp rfl) (fun w hh => ⟨(), rfl, hh.sel [] rfl⟩)
          · refine J_skip ?_
            refine N_then ?_
            refine J_seq ?_
            refine J_seq ?_
            refine J_draw [] (by kernel_rfl) ?_
            refine JP_take (i := 0) [0, 1, 2, 3, 4, 5, 6, 7, 8, 9, 10, 11, 12, 13] [] rfl (by kernel_rfl) (by kernel_rfl) (by kernel_rfl) rfl rfl (wants_none rfl) rfl (ex_load_bx_agg 10 ti_32 rfl rfl rfl rfl) ?_
            refine JP_take (i := 1) [0, 1, 2, 3, 4, 5, 6, 7, 8, 9, 10, 11, 12, 13] [] rfl (by kernel_rfl) (by kernel_rfl) (by kernel_rfl) rfl rfl (wants_none rfl) rfl (ex_load_bx_agg 4 ti_27 rfl rfl rfl rfl) ?_
            refine JP_go [0, 1, 2, 3, 4, 5, 6, 7, 8, 9, 10, 11, 12, 13] [] rfl rfl rfl (fun w69 h1_70 hp68 => ?_)
            refine JD_bnd fun r71 hr72 => ?_
            refine JD_one (i := 2) (by kernel_rfl) ?_
            refine JO_call rfl (wants_none rfl) rfl Try.call10 rfl (Ca_self (fun _ => rfl) fun w hh => c_laws_toMultiConfig _ w (fun _ hk => hk.elim) _ _ (GMultiConfig.rdmk (Rd.mk_int _ _ _) (hh.rd0 3 rfl)) _ hr72) (fun x73 => ?_)
            obtain ⟨x73_0, x73_1⟩ := x73
            refine JD_bnd fun r74 hr75 => ?_
            refine JD_one (i := 3) (by kernel_rfl) ?_
            refine JO_call rfl (wants_none rfl) rfl Try.call12 rfl (Ca_of0 fun w hh => c_laws_eqMultiConfig _ w (fun _ hk => hk.elim) _ _ (GMultiConfig.rdmk (Rd.mk_int _ _ _) (hh.od0 10 rfl)) _ _ (GMultiConfig.rdmk (Rd.mk_int _ _ _) (hh.od0 0 rfl)) _ hr75) (fun _ => ?_)
            refine JD_take (i := 4) hp68 rfl (by kernel_rfl) (by kernel_rfl) (by kernel_rfl) (wants_none rfl) rfl (ex_not rfl) ?_
            refine JD_done (by kernel_rfl) ?_
            refine N_then ?_
            refine J_if rfl (fun h76 => ?_) (fun h76 => ?_)
            · refine J_seq ?_
              refine J_region ?_
              refine JL_q (wants_none rfl) rfl (ex_assign rfl) ?_
              refine JL_nil ?_
              refine N_then ?_
              refine J_ret ?_
              refine N_then_ret ?_
              exact N_ret1 rfl (rv_tmp rfl) (fun w hh => ⟨(), rfl, hh.sel [] rfl⟩)
            · refine J_skip ?_
              refine N_then ?_
              refine J_seq ?_
              refine J_region ?_
              refine JL_q (wants_none rfl) rfl (ex_assign rfl) ?_
              refine JL_nil ?_
              refine N_then ?_
              refine J_seq ?_
              refine J_region ?_
              refine JL_q (wants_none rfl) rfl (ex_load_bx_agg 9 ti_37 rfl rfl rfl rfl) ?_
              refine JL_q (wants_none rfl) rfl (ex_move rfl) ?_
              refine JL_inline (wants_none rfl) rfl Try.call14 rfl Try.func14 rfl Try.ntmps14 rfl rfl (fun K_ hK77 => ?_)
              refine J_seq ?_
              refine J_region ?_
              refine JL_st (wants_none rfl) rfl (st_box' rfl (fun w hh => (cv_aggs ⟨cv_int, cv_int, cv_int, (hh.cv_od 8 rfl), trivial⟩))) (fun b78 => ?_)
              refine JL_q (wants_none rfl) rfl (ex_assign rfl) ?_
              refine JL_nil ?_
              refine N_then ?_
              refine J_seq ?_
              refine J_region ?_
              refine JL_q (wants_none rfl) rfl (ex_fieldAddr fi_37_3 rfl rfl) ?_
              refine JL_q (wants_none rfl) rfl (ex_load_bx 0 ti_35 rfl rfl rfl) ?_
              refine JL_q (wants_none rfl) rfl (ex_move rfl) ?_
              refine JL_bnd fun r79 hr80 => ?_
              refine JL_ctx (fun w hh => hh.tok 9 rfl) ?_
              refine JL_mark 0 [1, 2, 3, 5, 7, 8, 9, 11, 12, 13, 15, 16] mk_laws_markMultiRuleS (wants_none rfl) rfl Try.call36 rfl rfl rfl rfl (((SH.start hA).start_rd rfl hp0_0).start_rd rfl hp1_0) rfl hr80 ?_
              refine JL_ctx (fun w hh => hh.tkn_rd 14 rfl) ?_
              refine JL_q (wants_none rfl) rfl (ex_assign rfl) ?_
              refine JL_nil ?_
              refine N_then ?_
              refine J_seq ?_
              refine J_region ?_
              refine JL_q (wants_none rfl) rfl (ex_move rfl) ?_
              refine JL_q (wants_none rfl) rfl (ex_assign rfl) ?_
              refine JL_nil ?_
              refine N_then ?_
              refine J_ret ?_
              refine N_inl1 hK77 rfl (rv_tmp rfl) ?_
              refine JL_q (wants_none rfl) rfl (ex_assign rfl) ?_
              refine JL_nil ?_
              refine N_then ?_
              refine J_seq ?_
              refine J_region ?_
              refine JL_q (wants_none rfl) rfl (ex_load_bx_agg 14 ti_32 rfl rfl rfl rfl) ?_
              refine JL_q (wants_none rfl) rfl (ex_move rfl) ?_
              refine JL_inline (wants_none rfl) rfl Try.call15 rfl Try.func15 rfl Try.ntmps15 rfl rfl (fun K_ hK81 => ?_)
              refine J_seq ?_
              refine J_region ?_
              refine JL_st (wants_none rfl) rfl (st_box' rfl (fun w hh => (cv_aggs ⟨cv_int, (hh.cv_od 13 rfl), trivial⟩))) (fun b82 => ?_)
              refine JL_q (wants_none rfl) rfl (ex_assign rfl) ?_
              refine JL_nil ?_
              refine N_then ?_
              refine J_seq ?_
              refine J_region ?_
              refine JL_q (wants_none rfl) rfl (ex_fieldAddr fi_32_1 rfl rfl) ?_
              refine JL_q (wants_none rfl) rfl (ex_load_bx 0 ti_30 rfl rfl rfl) ?_
              refine JL_q (wants_none rfl) rfl (ex_move rfl) ?_
              refine JL_bnd fun r83 hr84 => ?_
              refine JL_ctx (fun w hh => hh.tok 14 rfl) ?_
              refine JL_mark 0 [1, 4, 7, 8, 9, 10, 11, 12, 13, 14, 16, 17, 18] mk_laws_markTapeS (wants_none rfl) rfl Try.call37 rfl rfl rfl rfl (((SH.start hA).start_rd rfl hp0_0).start_rd rfl hp1_0) rfl hr84 ?_
              refine JL_ctx (fun w hh => hh.tkn_rd 15 rfl) ?_
              refine JL_ctx (fun w hh => hh.tkn_rd 6 rfl) ?_
              refine JL_q (wants_none rfl) rfl (ex_assign rfl) ?_
              refine JL_nil ?_
              refine N_then ?_
              refine J_seq ?_
              refine J_region ?_
              refine JL_q (wants_none rfl) rfl (ex_move rfl) ?_
              refine JL_q (wants_none rfl) rfl (ex_assign rfl) ?_
              refine JL_nil ?_
              refine N_then ?_
              refine J_ret ?_
              refine N_inl1 hK81 rfl (rv_tmp rfl) ?_
              refine JL_q (wants_none rfl) rfl (ex_assign rfl) ?_
              refine JL_nil ?_
              refine N_then ?_
              refine J_seq ?_
              refine J_cut' (S' := Unit) (G' := Unit) (fun _ _ => [(2, .int .i64 p2), (3, .pointer (some ⟨b1, 0, none⟩)), (4, .pointer (some ⟨b2, 0, none⟩)), (8, .pointer (some ⟨g10_2, 0, none⟩)), (9, .int .i64 s9.2.2.1), (10, .bool s9.2.2.2.1), (11, .int .i64 s9.2.2.2.2), (14, .pointer (some ⟨b50, 0, none⟩))]) (fun _ _ => [.rd v0_0 p0.Rules, .bx b1 24 [.int .i64 p0.Tapes, .int .i64 p0.Symbols, .int .i64 p0.States, v0_0], .rd v1_0 p1.Tapes, .bx b2 27 [.int .i64 p1.State, v1_0], .od 91 g10_0 s9.2.1 g10_1, .bx g10_2 32 [.int .i64 s9.1, g10_0], .rd x49_0 r47.1.Tapes, .tkn x49_0 r47.1.Tapes x49_1, .bx b50 32 [.int .i64 r47.1.State, x49_0]]) ?_ (fun s85 g86 => ?_)
              · refine J_seq ?_
                refine J_region ?_
                refine JL_q (wants_none rfl) rfl (ex_move rfl) ?_
                refine JL_q (wants_none rfl) rfl (ex_lss rfl rfl) ?_
                refine JL_q (wants_none rfl) rfl (ex_move rfl) ?_
                refine JL_cond (fun h87 => ?_) (fun h87 => ?_)
                · refine JL_passed rfl rfl rfl h87 ?_
                  refine JL_passed rfl rfl rfl h87 ?_
                  refine JL_passed rfl rfl rfl h87 ?_
                  refine JL_passed rfl rfl rfl h87 ?_
                  refine JL_q (wants_none rfl) rfl (ex_pick_true rfl h87 rfl) ?_
                  refine JL_q (wants_none rfl) rfl (ex_move rfl) ?_
                  refine JL_passed rfl rfl rfl rfl ?_
                  refine JL_passed rfl rfl rfl rfl ?_
                  refine JL_passed rfl rfl rfl rfl ?_
                  refine JL_q (wants_none rfl) rfl (ex_pick_true rfl rfl rfl) ?_
                  refine JL_q (wants_none rfl) rfl (ex_move rfl) ?_
                  refine JL_passed rfl rfl rfl rfl ?_
                  refine JL_passed rfl rfl rfl rfl ?_
                  refine JL_passed rfl rfl rfl rfl ?_
                  refine JL_q (wants_none rfl) rfl (ex_pick_true rfl rfl rfl) ?_
                  refine JL_q (wants_none rfl) rfl (ex_move rfl) ?_
                  refine JL_passed rfl rfl rfl rfl ?_
                  refine JL_passed rfl rfl rfl rfl ?_
                  refine JL_passed rfl rfl rfl rfl ?_
                  refine JL_q (wants_none rfl) rfl (ex_pick_true rfl rfl rfl) ?_
                  refine JL_nil ?_
                  refine N_then ?_
                  refine J_if_true rfl rfl ?_
                  refine J_seq ?_
                  refine J_region ?_
                  refine JL_q (wants_none rfl) rfl (ex_assign rfl) ?_
                  refine JL_nil ?_
                  refine N_then ?_
                  refine J_ret ?_
                  refine N_mid_ret ?_
                  refine N_then_ret ?_
                  exact N_ret1 rfl (rv_tmp rfl) (fun w hh => ⟨(), rfl, hh.sel [] rfl⟩)
                · refine JL_q (wants_some rfl rfl rfl h87) rfl (ex_load_bx_agg 18 ti_32 rfl rfl rfl rfl) ?_
                  refine JL_q (wants_some rfl rfl rfl h87) rfl (ex_load_bx_agg 14 ti_32 rfl rfl rfl rfl) ?_
                  refine JL_bnd fun r88 hr89 => ?_
                  refine JL_call (wants_some rfl rfl rfl h87) rfl Try.call12 rfl (Ca_of0 fun w hh => c_laws_eqMultiConfig _ w (fun _ hk => hk.elim) _ _ (GMultiConfig.rdmk (Rd.mk_int _ _ _) (hh.rd0 1 rfl)) _ _ (GMultiConfig.rdmk (Rd.mk_int _ _ _) (hh.od0 13 rfl)) _ hr89) (fun _ => ?_)
                  refine JL_q (wants_some rfl rfl rfl h87) rfl (ex_not rfl) ?_
                  refine JL_q (wants_none rfl) rfl (ex_pick_false rfl h87 rfl) ?_
                  refine JL_q (wants_none rfl) rfl (ex_move rfl) ?_
                  refine JL_cond (fun h90 => ?_) (fun h90 => ?_)
                  · refine JL_passed rfl rfl rfl h90 ?_
                    refine JL_passed rfl rfl rfl h90 ?_
                    refine JL_passed rfl rfl rfl h90 ?_
                    refine JL_q (wants_none rfl) rfl (ex_pick_true rfl h90 rfl) ?_
                    refine JL_q (wants_none rfl) rfl (ex_move rfl) ?_
                    refine JL_passed rfl rfl rfl rfl ?_
                    refine JL_passed rfl rfl rfl rfl ?_
                    refine JL_passed rfl rfl rfl rfl ?_
                    refine JL_q (wants_none rfl) rfl (ex_pick_true rfl rfl rfl) ?_
                    refine JL_q (wants_none rfl) rfl (ex_move rfl) ?_
                    refine JL_passed rfl rfl rfl rfl ?_
                    refine JL_passed rfl rfl rfl rfl ?_
                    refine JL_passed rfl rfl rfl rfl ?_
                    refine JL_q (wants_none rfl) rfl (ex_pick_true rfl rfl rfl) ?_
                    refine JL_nil ?_
                    refine N_then ?_
                    refine J_if_true rfl rfl ?_
                    refine J_seq ?_
                    refine J_region ?_
                    refine JL_q (wants_none rfl) rfl (ex_assign rfl) ?_
                    refine JL_nil ?_
                    refine N_then ?_
                    refine J_ret ?_
                    refine N_mid_ret ?_
                    refine N_then_ret ?_
                    exact N_ret1 rfl (rv_tmp rfl) (fun w hh => ⟨(), rfl, hh.sel [] rfl⟩)
                  · refine JL_q (wants_some rfl rfl rfl h90) rfl (ex_move rfl) ?_
                    refine JL_q (wants_some rfl rfl rfl h90) rfl (ex_move rfl) ?_
                    refine JL_q (wants_some rfl rfl rfl h90) rfl (ex_neq rfl rfl) ?_
                    refine JL_q (wants_none rfl) rfl (ex_pick_false rfl h90 rfl) ?_
                    refine JL_q (wants_none rfl) rfl (ex_move rfl) ?_
                    refine JL_cond (fun h91 => ?_) (fun h91 => ?_)
                    · refine JL_passed rfl rfl rfl h91 ?_
                      refine JL_passed rfl rfl rfl h91 ?_
                      refine JL_passed rfl rfl rfl h91 ?_
                      refine JL_q (wants_none rfl) rfl (ex_pick_true rfl h91 rfl) ?_
                      refine JL_q (wants_none rfl) rfl (ex_move rfl) ?_
                      refine JL_passed rfl rfl rfl rfl ?_
                      refine JL_passed rfl rfl rfl rfl ?_
                      refine JL_passed rfl rfl rfl rfl ?_
                      refine JL_q (wants_none rfl) rfl (ex_pick_true rfl rfl rfl) ?_
                      refine JL_nil ?_
                      refine N_then ?_
                      refine J_if_true rfl rfl ?_
                      refine J_seq ?_
                      refine J_region ?_
                      refine JL_q (wants_none rfl) rfl (ex_assign rfl) ?_
                      refine JL_nil ?_
                      refine N_then ?_
                      refine J_ret ?_
                      refine N_mid_ret ?_
                      refine N_then_ret ?_
                      exact N_ret1 rfl (rv_tmp rfl) (fun w hh => ⟨(), rfl, hh.sel [] rfl⟩)
                    · refine JL_q (wants_some rfl rfl rfl h91) rfl (ex_move rfl) ?_
                      refine JL_q (wants_some rfl rfl rfl h91) rfl (ex_move rfl) ?_
                      refine JL_q (wants_some rfl rfl rfl h91) rfl (ex_neq_bool Try.underlying4 rfl rfl) ?_
                      refine JL_q (wants_none rfl) rfl (ex_pick_false rfl h91 rfl) ?_
                      refine JL_q (wants_none rfl) rfl (ex_move rfl) ?_
                      refine JL_cond (fun h92 => ?_) (fun h92 => ?_)
                      · refine JL_passed rfl rfl rfl h92 ?_
                        refine JL_passed rfl rfl rfl h92 ?_
                        refine JL_passed rfl rfl rfl h92 ?_
                        refine JL_q (wants_none rfl) rfl (ex_pick_true rfl h92 rfl) ?_
                        refine JL_nil ?_
                        refine N_then ?_
                        refine J_if_true rfl rfl ?_
                        refine J_seq ?_
                        refine J_region ?_
                        refine JL_q (wants_none rfl) rfl (ex_assign rfl) ?_
                        refine JL_nil ?_
                        refine N_then ?_
                        refine J_ret ?_
                        refine N_mid_ret ?_
                        refine N_then_ret ?_
                        exact N_ret1 rfl (rv_tmp rfl) (fun w hh => ⟨(), rfl, hh.sel [] rfl⟩)
                      · refine JL_q (wants_some rfl rfl rfl h92) rfl (ex_move rfl) ?_
                        refine JL_q (wants_some rfl rfl rfl h92) rfl (ex_move rfl) ?_
                        refine JL_q (wants_some rfl rfl rfl h92) rfl (ex_neq rfl rfl) ?_
                        refine JL_q (wants_none rfl) rfl (ex_pick_false rfl h92 rfl) ?_
                        refine JL_nil ?_
                        refine N_then ?_
                        refine J_if rfl (fun h93 => ?_) (fun h93 => ?_)
                        · refine J_seq ?_
                          refine J_region ?_
                          refine JL_q (wants_none rfl) rfl (ex_assign rfl) ?_
                          refine JL_nil ?_
                          refine N_then ?_
                          refine J_ret ?_
                          refine N_mid_ret ?_
                          refine N_then_ret ?_
                          exact N_ret1 rfl (rv_tmp rfl) (fun w hh => ⟨(), rfl, hh.sel [] rfl⟩)
                        · refine J_skip ?_
                          exact N_meet' () ⟨rfl, rfl, rfl, rfl, rfl, rfl, rfl, rfl, trivial⟩ [5, 11, 4, 12, 13, 14, 1, 17, 18] rfl rfl
              · refine N_then ?_
                refine J_seq ?_
                refine J_region ?_
                refine JL_q (wants_none rfl) rfl (ex_assign rfl) ?_
                refine JL_nil ?_
                refine N_then ?_
                refine J_seq ?_
                refine J_region ?_
                refine JL_q (wants_none rfl) rfl (ex_load_bx_agg 8 ti_32 rfl rfl rfl rfl) ?_
                refine JL_q (wants_none rfl) rfl (ex_move rfl) ?_
                refine JL_inline (wants_none rfl) rfl Try.call15 rfl Try.func15 rfl Try.ntmps15 rfl rfl (fun K_ hK94 => ?_)
                refine J_seq ?_
                refine J_region ?_
                refine JL_st (wants_none rfl) rfl (st_box' rfl (fun w hh => (cv_aggs ⟨cv_int, (hh.cv 6 rfl), trivial⟩))) (fun b95 => ?_)
                refine JL_q (wants_none rfl) rfl (ex_assign rfl) ?_
                refine JL_nil ?_
                refine N_then ?_
                refine J_seq ?_
                refine J_region ?_
                refine JL_q (wants_none rfl) rfl (ex_fieldAddr fi_32_1 rfl rfl) ?_
                refine JL_q (wants_none rfl) rfl (ex_load_bx 0 ti_30 rfl rfl rfl) ?_
                refine JL_q (wants_none rfl) rfl (ex_move rfl) ?_
                refine JL_bnd fun r96 hr97 => ?_
                refine JL_mark 8 [0, 2, 4, 5, 6, 9] mk_laws_markTapeS (wants_none rfl) rfl Try.call37 rfl rfl rfl rfl (((SH.start hA).start_rd rfl hp0_0).start_rd rfl hp1_0) rfl hr97 ?_
                refine JL_q (wants_none rfl) rfl (ex_assign rfl) ?_
                refine JL_nil ?_
                refine N_then ?_
                refine J_seq ?_
                refine J_region ?_
                refine JL_q (wants_none rfl) rfl (ex_move rfl) ?_
                refine JL_q (wants_none rfl) rfl (ex_assign rfl) ?_
                refine JL_nil ?_
                refine N_then ?_
                refine J_ret ?_
                refine N_inl1 hK94 rfl (rv_tmp rfl) ?_
                refine JL_q (wants_none rfl) rfl (ex_assign rfl) ?_
                refine JL_nil ?_
                refine N_then ?_
                refine J_seq ?_
                refine J_region ?_
                refine JL_q (wants_none rfl) rfl (ex_assign rfl) ?_
                refine JL_nil ?_
                refine N_then ?_
                refine J_seq ?_
                refine J_region ?_
                refine JL_q (wants_none rfl) rfl (ex_load_bx_agg 9 ti_32 rfl rfl rfl rfl) ?_
                refine JL_q (wants_none rfl) rfl (ex_move rfl) ?_
                refine JL_bnd fun r98 hr99 => ?_
                refine JL_call (wants_none rfl) rfl Try.call16 rfl (Ca_of0 fun w hh => c_laws_heldMultiConfig _ w (fun _ hk => hk.elim) _ _ (GMultiConfig.rdmk (Rd.mk_int _ _ _) (hh.rd0 0 rfl)) _ _ hr99) (fun _ => ?_)
                refine JL_q (wants_none rfl) rfl (ex_assign rfl) ?_
                refine JL_nil ?_
                refine N_then ?_
                refine J_seq ?_
                refine J_seq ?_
                refine J_region ?_
                refine JL_q (wants_none rfl) rfl (ex_move rfl) ?_
                refine JL_q (wants_none rfl) rfl (ex_lss rfl rfl) ?_
                refine JL_nil ?_
                refine N_then ?_
                refine J_if rfl (fun h100 => ?_) (fun h100 => ?_)
                · refine J_seq ?_
                  refine J_region ?_
                  refine JL_q (wants_none rfl) rfl (ex_assign rfl) ?_
                  refine JL_nil ?_
                  refine N_then ?_
                  refine J_ret ?_
                  refine N_then_ret ?_
                  exact N_ret1 rfl (rv_tmp rfl) (fun w hh => ⟨(), rfl, hh.sel [] rfl⟩)
                · refine J_skip ?_
                  refine N_then ?_
                  refine J_seq ?_
                  refine J_seq ?_
                  refine J_region ?_
                  refine JL_q (wants_none rfl) rfl (ex_move rfl) ?_
                  refine JL_q (wants_none rfl) rfl (ex_move rfl) ?_
                  refine JL_q (wants_none rfl) rfl (ex_neq rfl rfl) ?_
                  refine JL_nil ?_
                  refine N_then ?_
                  refine J_if rfl (fun h101 => ?_) (fun h101 => ?_)
                  · refine J_seq ?_
                    refine J_region ?_
                    refine JL_q (wants_none rfl) rfl (ex_assign rfl) ?_
                    refine JL_nil ?_
                    refine N_then ?_
                    refine J_ret ?_
                    refine N_then_ret ?_
                    exact N_ret1 rfl (rv_tmp rfl) (fun w hh => ⟨(), rfl, hh.sel [] rfl⟩)
                  · refine J_skip ?_
                    refine N_then ?_
                    refine J_seq ?_
                    refine J_cut' (S' := Int × (List GTape) × Int × Bool × Int) (G' := Value × List Nat × Nat) (fun s102 g103 => [(8, .pointer (some ⟨g10_2, 0, none⟩)), (9, .int .i64 s9.2.2.1), (10, .bool s9.2.2.2.1), (11, .int .i64 s9.2.2.2.2), (14, .pointer (some ⟨b50, 0, none⟩)), (19, .int .i64 r96.1), (21, .pointer (some ⟨g103.2.2, 0, none⟩)), (22, .int .i64 s102.2.2.1), (23, .bool s102.2.2.2.1), (24, .int .i64 s102.2.2.2.2)]) (fun s102 g103 => [.od 91 g10_0 s9.2.1 g10_1, .bx g10_2 32 [.int .i64 s9.1, g10_0], .rd x49_0 r96.2, .tkn x49_0 r96.2 x49_1, .bx b50 32 [.int .i64 r47.1.State, x49_0], .rd g103.1 s102.2.1, .tkn g103.1 s102.2.1 g103.2.1, .bx g103.2.2 32 [.int .i64 s102.1, g103.1]]) ?_ (fun s102 g103 => ?_)
                    · refine J_draw [] (by kernel_rfl) ?_
                      refine JP_take (i := 0) [0, 1, 2, 3, 4, 5, 6, 7, 8, 9] [] rfl (by kernel_rfl) (by kernel_rfl) (by kernel_rfl) rfl rfl (wants_none rfl) rfl (ex_load_bx_agg 5 ti_24 rfl rfl rfl rfl) ?_
                      refine JP_take (i := 2) [0, 1, 2, 3, 4, 5, 6, 7, 8, 9] [] rfl (by kernel_rfl) (by kernel_rfl) (by kernel_rfl) rfl rfl (wants_none rfl) rfl (ex_load_bx_agg 6 ti_27 rfl rfl rfl rfl) ?_
                      refine JP_take (i := 4) [0, 1, 2, 3, 4, 5, 6, 7, 8, 9] [] rfl (by kernel_rfl) (by kernel_rfl) (by kernel_rfl) rfl rfl (wants_none rfl) rfl (ex_move rfl) ?_
                      refine JP_go [0, 1, 2, 3, 4, 5, 6, 7, 8, 9] [] rfl rfl rfl (fun w105 h1_106 hp104 => ?_)
                      refine JD_bnd fun r107 hr108 => ?_
                      refine JD_two (i := 1) (j := 11) (by kernel_rfl) ?_ ?_
                      · refine JO_call rfl (wants_none rfl) rfl Try.call9 rfl (Ca_self (fun _ => rfl) fun w hh => c_laws_toMulti _ w (fun _ hk => hk.elim) _ _ (GMulti.rdmk (Rd.mk_int _ _ _) (Rd.mk_int _ _ _) (Rd.mk_int _ _ _) (hh.rd0 3 rfl)) _ hr108) (fun x109 => ?_)
                        obtain ⟨x109_0, x109_1⟩ := x109
                        refine JD_bnd fun r110 hr111 => ?_
                        refine JD_two (i := 3) (j := 11) (by kernel_rfl) ?_ ?_
                        · refine JO_call rfl (wants_none rfl) rfl Try.call10 rfl (Ca_self (fun _ => rfl) fun w hh => c_laws_toMultiConfig _ w (fun _ hk => hk.elim) _ _ (GMultiConfig.rdmk (Rd.mk_int _ _ _) (hh.rd0 3 rfl)) _ hr111) (fun x112 => ?_)
                          obtain ⟨x112_0, x112_1⟩ := x112
                          refine JD_bnd fun r113 hr114 => ?_
                          refine JD_two (i := 5) (j := 11) (by kernel_rfl) ?_ ?_
                          · refine JO_call rfl (wants_none rfl) rfl Try.call18 rfl (Ca_self (fun _ => rfl) fun w hh => c_impl_RunMulti _ w (fun _ hk => hk.elim) _ _ (GMulti.rdmk (Rd.mk_int _ _ _) (Rd.mk_int _ _ _) (Rd.mk_int _ _ _) (hh.od0 1 rfl)) _ _ (GMultiConfig.rdmk (Rd.mk_int _ _ _) (hh.od0 0 rfl)) _ _ hr114) (fun x115 => ?_)
                            obtain ⟨x115_0, x115_1⟩ := x115
                            refine JD_ctx (fun w hh => hh.tkn_rd 0 rfl) (fun _ hb => hb) ?_
                            refine JD_take (i := 6) hp104 rfl (by kernel_rfl) (by kernel_rfl) (by kernel_rfl) (wants_none rfl) rfl (ex_move rfl) ?_
                            refine JD_take (i := 7) hp104 rfl (by kernel_rfl) (by kernel_rfl) (by kernel_rfl) (wants_none rfl) rfl (ex_extract rfl rfl) ?_
                            refine JD_take (i := 8) hp104 rfl (by kernel_rfl) (by kernel_rfl) (by kernel_rfl) (wants_none rfl) rfl (ex_extract rfl rfl) ?_
                            refine JD_take (i := 9) hp104 rfl (by kernel_rfl) (by kernel_rfl) (by kernel_rfl) (wants_none rfl) rfl (ex_extract rfl rfl) ?_
                            refine JD_take (i := 10) hp104 rfl (by kernel_rfl) (by kernel_rfl) (by kernel_rfl) (wants_none rfl) rfl (ex_extract rfl rfl) ?_
                            refine JD_one (i := 11) (by kernel_rfl) ?_
                            refine JO_st rfl (wants_none rfl) rfl (st_alloc zi_32 rfl) (fun _ hk => nomatch hk) (fun b116 => ?_)
                            refine JD_one (i := 12) (by kernel_rfl) ?_
                            refine JO_sk2 0 [] [0, 1, 2, 3, 4, 5, 6, 7, 8, 9] [5, 6, 7, 8, 9, 10, 11, 12, 13, 14] rfl rfl rfl rfl rfl rfl (wants_none rfl) (sk_store_bx' 0 ti_32 rfl rfl (fun w hh => (cv_aggs ⟨cv_int, (hh.cv 1 rfl), trivial⟩)) rfl rfl rfl rfl) (fun _ hk => hk) ?_
                            refine JD_take (i := 13) hp104 rfl (by kernel_rfl) (by kernel_rfl) (by kernel_rfl) (wants_none rfl) rfl (ex_assign rfl) ?_
                            refine JD_take (i := 14) hp104 rfl (by kernel_rfl) (by kernel_rfl) (by kernel_rfl) (wants_none rfl) rfl (ex_assign rfl) ?_
                            refine JD_take (i := 15) hp104 rfl (by kernel_rfl) (by kernel_rfl) (by kernel_rfl) (wants_none rfl) rfl (ex_assign rfl) ?_
                            refine JD_done (by kernel_rfl) ?_
                            exact N_meet' (x115_0, x115_1, b116) ⟨rfl, rfl, rfl, rfl, rfl, rfl, rfl, rfl, rfl, rfl, trivial⟩ [12, 13, 5, 6, 14, 1, 2, 0] rfl rfl
                          · refine JO_st rfl (wants_none rfl) rfl (st_alloc zi_32 rfl) (fun _ hk => nomatch hk) (fun b117 => ?_)
                            refine JD_one (i := 5) (by kernel_rfl) ?_
                            refine JO_call rfl (wants_none rfl) rfl Try.call18 rfl (Ca_self (fun _ => rfl) fun w hh => c_impl_RunMulti _ w (fun _ hk => hk.elim) _ _ (GMulti.rdmk (Rd.mk_int _ _ _) (Rd.mk_int _ _ _) (Rd.mk_int _ _ _) (hh.od0 2 rfl)) _ _ (GMultiConfig.rdmk (Rd.mk_int _ _ _) (hh.od0 1 rfl)) _ _ hr114) (fun x118 => ?_)
                            obtain ⟨x118_0, x118_1⟩ := x118
                            refine JD_ctx (fun w hh => hh.tkn_rd 0 rfl) (fun _ hb => hb) ?_
                            refine JD_take (i := 6) hp104 rfl (by kernel_rfl) (by kernel_rfl) (by kernel_rfl) (wants_none rfl) rfl (ex_move rfl) ?_
                            refine JD_take (i := 7) hp104 rfl (by kernel_rfl) (by kernel_rfl) (by kernel_rfl) (wants_none rfl) rfl (ex_extract rfl rfl) ?_
                            refine JD_take (i := 8) hp104 rfl (by kernel_rfl) (by kernel_rfl) (by kernel_rfl) (wants_none rfl) rfl (ex_extract rfl rfl) ?_
                            refine JD_take (i := 9) hp104 rfl (by kernel_rfl) (by kernel_rfl) (by kernel_rfl) (wants_none rfl) rfl (ex_extract rfl rfl) ?_
                            refine JD_take (i := 10) hp104 rfl (by kernel_rfl) (by kernel_rfl) (by kernel_rfl) (wants_none rfl) rfl (ex_extract rfl rfl) ?_
                            refine JD_one (i := 12) (by kernel_rfl) ?_
                            refine JO_sk2 2 [] [0, 1, 2, 3, 4, 5, 6, 7, 8, 9] [5, 6, 7, 8, 9, 10, 11, 12, 13, 14] rfl rfl rfl rfl rfl rfl (wants_none rfl) (sk_store_bx' 2 ti_32 rfl rfl (fun w hh => (cv_aggs ⟨cv_int, (hh.cv 0 rfl), trivial⟩)) rfl rfl rfl rfl) (fun _ hk => hk) ?_
                            refine JD_take (i := 13) hp104 rfl (by kernel_rfl) (by kernel_rfl) (by kernel_rfl) (wants_none rfl) rfl (ex_assign rfl) ?_
                            refine JD_take (i := 14) hp104 rfl (by kernel_rfl) (by kernel_rfl) (by kernel_rfl) (wants_none rfl) rfl (ex_assign rfl) ?_
                            refine JD_take (i := 15) hp104 rfl (by kernel_rfl) (by kernel_rfl) (by kernel_rfl) (wants_none rfl) rfl (ex_assign rfl) ?_
                            refine JD_done (by kernel_rfl) ?_
                            exact N_meet' (x118_0, x118_1, b117) ⟨rfl, rfl, rfl, rfl, rfl, rfl, rfl, rfl, rfl, rfl, trivial⟩ [12, 13, 5, 6, 14, 0, 1, 2] rfl rfl
                        · refine JO_st rfl (wants_none rfl) rfl (st_alloc zi_32 rfl) (fun _ hk => nomatch hk) (fun b119 => ?_)
                          refine JD_one (i := 3) (by kernel_rfl) ?_
                          refine JO_call rfl (wants_none rfl) rfl Try.call10 rfl (Ca_self (fun _ => rfl) fun w hh => c_laws_toMultiConfig _ w (fun _ hk => hk.elim) _ _ (GMultiConfig.rdmk (Rd.mk_int _ _ _) (hh.rd0 4 rfl)) _ hr111) (fun x120 => ?_)
                          obtain ⟨x120_0, x120_1⟩ := x120
                          refine JD_bnd fun r121 hr122 => ?_
                          refine JD_one (i := 5) (by kernel_rfl) ?_
                          refine JO_call rfl (wants_none rfl) rfl Try.call18 rfl (Ca_self (fun _ => rfl) fun w hh => c_impl_RunMulti _ w (fun _ hk => hk.elim) _ _ (GMulti.rdmk (Rd.mk_int _ _ _) (Rd.mk_int _ _ _) (Rd.mk_int _ _ _) (hh.od0 2 rfl)) _ _ (GMultiConfig.rdmk (Rd.mk_int _ _ _) (hh.od0 0 rfl)) _ _ hr122) (fun x123 => ?_)
                          obtain ⟨x123_0, x123_1⟩ := x123
                          refine JD_ctx (fun w hh => hh.tkn_rd 0 rfl) (fun _ hb => hb) ?_
                          refine JD_take (i := 6) hp104 rfl (by kernel_rfl) (by kernel_rfl) (by kernel_rfl) (wants_none rfl) rfl (ex_move rfl) ?_
                          refine JD_take (i := 7) hp104 rfl (by kernel_rfl) (by kernel_rfl) (by kernel_rfl) (wants_none rfl) rfl (ex_extract rfl rfl) ?_
                          refine JD_take (i := 8) hp104 rfl (by kernel_rfl) (by kernel_rfl) (by kernel_rfl) (wants_none rfl) rfl (ex_extract rfl rfl) ?_
                          refine JD_take (i := 9) hp104 rfl (by kernel_rfl) (by kernel_rfl) (by kernel_rfl) (wants_none rfl) rfl (ex_extract rfl rfl) ?_
                          refine JD_take (i := 10) hp104 rfl (by kernel_rfl) (by kernel_rfl) (by kernel_rfl) (wants_none rfl) rfl (ex_extract rfl rfl) ?_
                          refine JD_one (i := 12) (by kernel_rfl) ?_
                          refine JO_sk2 3 [] [0, 1, 2, 3, 4, 5, 6, 7, 8, 9] [5, 6, 7, 8, 9, 10, 11, 12, 13, 14] rfl rfl rfl rfl rfl rfl (wants_none rfl) (sk_store_bx' 3 ti_32 rfl rfl (fun w hh => (cv_aggs ⟨cv_int, (hh.cv 0 rfl), trivial⟩)) rfl rfl rfl rfl) (fun _ hk => hk) ?_
                          refine JD_take (i := 13) hp104 rfl (by kernel_rfl) (by kernel_rfl) (by kernel_rfl) (wants_none rfl) rfl (ex_assign rfl) ?_
                          refine JD_take (i := 14) hp104 rfl (by kernel_rfl) (by kernel_rfl) (by kernel_rfl) (wants_none rfl) rfl (ex_assign rfl) ?_
                          refine JD_take (i := 15) hp104 rfl (by kernel_rfl) (by kernel_rfl) (by kernel_rfl) (wants_none rfl) rfl (ex_assign rfl) ?_
                          refine JD_done (by kernel_rfl) ?_
                          exact N_meet' (x123_0, x123_1, b119) ⟨rfl, rfl, rfl, rfl, rfl, rfl, rfl, rfl, rfl, rfl, trivial⟩ [12, 13, 5, 6, 14, 0, 1, 3] rfl rfl
                      · refine JO_st rfl (wants_none rfl) rfl (st_alloc zi_32 rfl) (fun _ hk => nomatch hk) (fun b124 => ?_)
                        refine JD_one (i := 1) (by kernel_rfl) ?_
                        refine JO_call rfl (wants_none rfl) rfl Try.call9 rfl (Ca_self (fun _ => rfl) fun w hh => c_laws_toMulti _ w (fun _ hk => hk.elim) _ _ (GMulti.rdmk (Rd.mk_int _ _ _) (Rd.mk_int _ _ _) (Rd.mk_int _ _ _) (hh.rd0 4 rfl)) _ hr108) (fun x125 => ?_)
                        obtain ⟨x125_0, x125_1⟩ := x125
                        refine JD_bnd fun r126 hr127 => ?_
                        refine JD_one (i := 3) (by kernel_rfl) ?_
                        refine JO_call rfl (wants_none rfl) rfl Try.call10 rfl (Ca_self (fun _ => rfl) fun w hh => c_laws_toMultiConfig _ w (fun _ hk => hk.elim) _ _ (GMultiConfig.rdmk (Rd.mk_int _ _ _) (hh.rd0 4 rfl)) _ hr127) (fun x128 => ?_)
                        obtain ⟨x128_0, x128_1⟩ := x128
                        refine JD_bnd fun r129 hr130 => ?_
                        refine JD_one (i := 5) (by kernel_rfl) ?_
                        refine JO_call rfl (wants_none rfl) rfl Try.call18 rfl (Ca_self (fun _ => rfl) fun w hh => c_impl_RunMulti _ w (fun _ hk => hk.elim) _ _ (GMulti.rdmk (Rd.mk_int _ _ _) (Rd.mk_int _ _ _) (Rd.mk_int _ _ _) (hh.od0 1 rfl)) _ _ (GMultiConfig.rdmk (Rd.mk_int _ _ _) (hh.od0 0 rfl)) _ _ hr130) (fun x131 => ?_)
                        obtain ⟨x131_0, x131_1⟩ := x131
                        refine JD_ctx (fun w hh => hh.tkn_rd 0 rfl) (fun _ hb => hb) ?_
                        refine JD_take (i := 6) hp104 rfl (by kernel_rfl) (by kernel_rfl) (by kernel_rfl) (wants_none rfl) rfl (ex_move rfl) ?_
                        refine JD_take (i := 7) hp104 rfl (by kernel_rfl) (by kernel_rfl) (by kernel_rfl) (wants_none rfl) rfl (ex_extract rfl rfl) ?_
                        refine JD_take (i := 8) hp104 rfl (by kernel_rfl) (by kernel_rfl) (by kernel_rfl) (wants_none rfl) rfl (ex_extract rfl rfl) ?_
                        refine JD_take (i := 9) hp104 rfl (by kernel_rfl) (by kernel_rfl) (by kernel_rfl) (wants_none rfl) rfl (ex_extract rfl rfl) ?_
                        refine JD_take (i := 10) hp104 rfl (by kernel_rfl) (by kernel_rfl) (by kernel_rfl) (wants_none rfl) rfl (ex_extract rfl rfl) ?_
                        refine JD_one (i := 12) (by kernel_rfl) ?_
                        refine JO_sk2 4 [] [0, 1, 2, 3, 4, 5, 6, 7, 8, 9] [5, 6, 7, 8, 9, 10, 11, 12, 13, 14] rfl rfl rfl rfl rfl rfl (wants_none rfl) (sk_store_bx' 4 ti_32 rfl rfl (fun w hh => (cv_aggs ⟨cv_int, (hh.cv 0 rfl), trivial⟩)) rfl rfl rfl rfl) (fun _ hk => hk) ?_
                        refine JD_take (i := 13) hp104 rfl (by kernel_rfl) (by kernel_rfl) (by kernel_rfl) (wants_none rfl) rfl (ex_assign rfl) ?_
                        refine JD_take (i := 14) hp104 rfl (by kernel_rfl) (by kernel_rfl) (by kernel_rfl) (wants_none rfl) rfl (ex_assign rfl) ?_
                        refine JD_take (i := 15) hp104 rfl (by kernel_rfl) (by kernel_rfl) (by kernel_rfl) (wants_none rfl) rfl (ex_assign rfl) ?_
                        refine JD_done (by kernel_rfl) ?_
                        exact N_meet' (x131_0, x131_1, b124) ⟨rfl, rfl, rfl, rfl, rfl, rfl, rfl, rfl, rfl, rfl, trivial⟩ [12, 13, 5, 6, 14, 0, 1, 4] rfl rfl
                    · obtain ⟨g103_0, g103_1, g103_2⟩ := g103
                      refine N_then ?_
                      refine J_seq ?_
                      refine J_seq ?_
                      refine J_region ?_
                      refine JL_q (wants_none rfl) rfl (ex_load_bx_agg 7 ti_32 rfl rfl rfl rfl) ?_
                      refine JL_q (wants_none rfl) rfl (ex_load_bx_agg 1 ti_32 rfl rfl rfl rfl) ?_
                      refine JL_bnd fun r132 hr133 => ?_
                      refine JL_call (wants_none rfl) rfl Try.call12 rfl (Ca_of0 fun w hh => c_laws_eqMultiConfig _ w (fun _ hk => hk.elim) _ _ (GMultiConfig.rdmk (Rd.mk_int _ _ _) (hh.rd0 5 rfl)) _ _ (GMultiConfig.rdmk (Rd.mk_int _ _ _) (hh.od0 0 rfl)) _ hr133) (fun _ => ?_)
                      refine JL_q (wants_none rfl) rfl (ex_not rfl) ?_
                      refine JL_q (wants_none rfl) rfl (ex_move rfl) ?_
                      refine JL_cond (fun h134 => ?_) (fun h134 => ?_)
                      · refine JL_passed rfl rfl rfl h134 ?_
                        refine JL_passed rfl rfl rfl h134 ?_
                        refine JL_passed rfl rfl rfl h134 ?_
                        refine JL_q (wants_none rfl) rfl (ex_pick_true rfl h134 rfl) ?_
                        refine JL_q (wants_none rfl) rfl (ex_move rfl) ?_
                        refine JL_passed rfl rfl rfl rfl ?_
                        refine JL_passed rfl rfl rfl rfl ?_
                        refine JL_passed rfl rfl rfl rfl ?_
                        refine JL_q (wants_none rfl) rfl (ex_pick_true rfl rfl rfl) ?_
                        refine JL_q (wants_none rfl) rfl (ex_move rfl) ?_
                        refine JL_passed rfl rfl rfl rfl ?_
                        refine JL_passed rfl rfl rfl rfl ?_
                        refine JL_passed rfl rfl rfl rfl ?_
                        refine JL_q (wants_none rfl) rfl (ex_pick_true rfl rfl rfl) ?_
                        refine JL_nil ?_
                        refine N_then ?_
                        refine J_if_true rfl rfl ?_
                        refine J_seq ?_
                        refine J_region ?_
                        refine JL_q (wants_none rfl) rfl (ex_assign rfl) ?_
                        refine JL_nil ?_
                        refine N_then ?_
                        refine J_ret ?_
                        refine N_then_ret ?_
                        exact N_ret1 rfl (rv_tmp rfl) (fun w hh => ⟨(), rfl, hh.sel [] rfl⟩)
                      · refine JL_q (wants_some rfl rfl rfl h134) rfl (ex_move rfl) ?_
                        refine JL_q (wants_some rfl rfl rfl h134) rfl (ex_move rfl) ?_
                        refine JL_q (wants_some rfl rfl rfl h134) rfl (ex_neq rfl rfl) ?_
                        refine JL_q (wants_none rfl) rfl (ex_pick_false rfl h134 rfl) ?_
                        refine JL_q (wants_none rfl) rfl (ex_move rfl) ?_
                        refine JL_cond (fun h135 => ?_) (fun h135 => ?_)
                        · refine JL_passed rfl rfl rfl h135 ?_
                          refine JL_passed rfl rfl rfl h135 ?_
                          refine JL_passed rfl rfl rfl h135 ?_
                          refine JL_q (wants_none rfl) rfl (ex_pick_true rfl h135 rfl) ?_
                          refine JL_q (wants_none rfl) rfl (ex_move rfl) ?_
                          refine JL_passed rfl rfl rfl rfl ?_
                          refine JL_passed rfl rfl rfl rfl ?_
                          refine JL_passed rfl rfl rfl rfl ?_
                          refine JL_q (wants_none rfl) rfl (ex_pick_true rfl rfl rfl) ?_
                          refine JL_nil ?_
                          refine N_then ?_
                          refine J_if_true rfl rfl ?_
                          refine J_seq ?_
                          refine J_region ?_
                          refine JL_q (wants_none rfl) rfl (ex_assign rfl) ?_
                          refine JL_nil ?_
                          refine N_then ?_
                          refine J_ret ?_
                          refine N_then_ret ?_
                          exact N_ret1 rfl (rv_tmp rfl) (fun w hh => ⟨(), rfl, hh.sel [] rfl⟩)
                        · refine JL_q (wants_some rfl rfl rfl h135) rfl (ex_move rfl) ?_
                          refine JL_q (wants_some rfl rfl rfl h135) rfl (ex_move rfl) ?_
                          refine JL_q (wants_some rfl rfl rfl h135) rfl (ex_neq_bool Try.underlying4 rfl rfl) ?_
                          refine JL_q (wants_none rfl) rfl (ex_pick_false rfl h135 rfl) ?_
                          refine JL_q (wants_none rfl) rfl (ex_move rfl) ?_
                          refine JL_cond (fun h136 => ?_) (fun h136 => ?_)
                          · refine JL_passed rfl rfl rfl h136 ?_
                            refine JL_passed rfl rfl rfl h136 ?_
                            refine JL_passed rfl rfl rfl h136 ?_
                            refine JL_q (wants_none rfl) rfl (ex_pick_true rfl h136 rfl) ?_
                            refine JL_nil ?_
                            refine N_then ?_
                            refine J_if_true rfl rfl ?_
                            refine J_seq ?_
                            refine J_region ?_
                            refine JL_q (wants_none rfl) rfl (ex_assign rfl) ?_
                            refine JL_nil ?_
                            refine N_then ?_
                            refine J_ret ?_
                            refine N_then_ret ?_
                            exact N_ret1 rfl (rv_tmp rfl) (fun w hh => ⟨(), rfl, hh.sel [] rfl⟩)
                          · refine JL_q (wants_some rfl rfl rfl h136) rfl (ex_move rfl) ?_
                            refine JL_q (wants_some rfl rfl rfl h136) rfl (ex_move rfl) ?_
                            refine JL_q (wants_some rfl rfl rfl h136) rfl (ex_neq rfl rfl) ?_
                            refine JL_q (wants_none rfl) rfl (ex_pick_false rfl h136 rfl) ?_
                            refine JL_nil ?_
                            refine N_then ?_
                            refine J_if rfl (fun h137 => ?_) (fun h137 => ?_)
                            · refine J_seq ?_
                              refine J_region ?_
                              refine JL_q (wants_none rfl) rfl (ex_assign rfl) ?_
                              refine JL_nil ?_
                              refine N_then ?_
                              refine J_ret ?_
                              refine N_then_ret ?_
                              exact N_ret1 rfl (rv_tmp rfl) (fun w hh => ⟨(), rfl, hh.sel [] rfl⟩)
                            · refine J_skip ?_
                              refine N_then ?_
                              refine J_seq ?_
                              refine J_region ?_
                              refine JL_q (wants_none rfl) rfl (ex_assign rfl) ?_
                              refine JL_nil ?_
                              refine N_then ?_
                              refine J_seq ?_
                              refine J_region ?_
                              refine JL_q (wants_none rfl) rfl (ex_load_bx_agg 4 ti_32 rfl rfl rfl rfl) ?_
                              refine JL_q (wants_none rfl) rfl (ex_move rfl) ?_
                              refine JL_bnd fun r138 hr139 => ?_
                              refine JL_call (wants_none rfl) rfl Try.call16 rfl (Ca_of0 fun w hh => c_laws_heldMultiConfig _ w (fun _ hk => hk.elim) _ _ (GMultiConfig.rdmk (Rd.mk_int _ _ _) (hh.rd0 2 rfl)) _ _ hr139) (fun _ => ?_)
                              refine JL_q (wants_none rfl) rfl (ex_assign rfl) ?_
                              refine JL_nil ?_
                              refine N_then ?_
                              refine J_seq ?_
                              refine J_seq ?_
                              refine J_region ?_
                              refine JL_q (wants_none rfl) rfl (ex_move rfl) ?_
                              refine JL_q (wants_none rfl) rfl (ex_lss rfl rfl) ?_
                              refine JL_nil ?_
                              refine N_then ?_
                              refine J_if rfl (fun h140 => ?_) (fun h140 => ?_)
                              · refine J_seq ?_
                                refine J_region ?_
                                refine JL_q (wants_none rfl) rfl (ex_assign rfl) ?_
                                refine JL_nil ?_
                                refine N_then ?_
                                refine J_ret ?_
                                refine N_then_ret ?_
                                exact N_ret1 rfl (rv_tmp rfl) (fun w hh => ⟨(), rfl, hh.sel [] rfl⟩)
                              · refine J_skip ?_
                                refine N_then ?_
                                refine J_seq ?_
                                refine J_seq ?_
                                refine J_region ?_
                                refine JL_q (wants_none rfl) rfl (ex_move rfl) ?_
                                refine JL_q (wants_none rfl) rfl (ex_move rfl) ?_
                                refine JL_q (wants_none rfl) rfl (ex_neq rfl rfl) ?_
                                refine JL_nil ?_
                                refine N_then ?_
                                refine J_if rfl (fun h141 => ?_) (fun h141 => ?_)
                                · refine J_seq ?_
                                  refine J_region ?_
                                  refine JL_q (wants_none rfl) rfl (ex_assign rfl) ?_
                                  refine JL_nil ?_
                                  refine N_then ?_
                                  refine J_ret ?_
                                  refine N_then_ret ?_
                                  exact N_ret1 rfl (rv_tmp rfl) (fun w hh => ⟨(), rfl, hh.sel [] rfl⟩)
                                · refine J_skip ?_
                                  refine N_then ?_
                                  refine J_seq ?_
                                  refine J_region ?_
                                  refine JL_q (wants_none rfl) rfl (ex_assign rfl) ?_
                                  refine JL_nil ?_
                                  refine N_then ?_
                                  refine J_ret ?_
                                  exact N_ret1 rfl (rv_tmp rfl) (fun w hh => ⟨(), rfl, hh.sel [] rfl⟩)

end Go.Proofs.Ytomiabeodgcmcaa
