/-
  Each function of the program computes what its plain function says: printed by program. No condition.
-/
import Derived.Test.YtfklpjdenigohaaFn
import Derived.Test.YtfklpjdenigohaaInf
import Derived.Test.YtfklpjdenigohaaCon1
import Derived.Test.YtfklpjdenigohaaCon2
import Derived.Test.YtfklpjdenigohaaCon3
import Derived.Test.YtfklpjdenigohaaCon10
import Derived.Test.YtfklpjdenigohaaCon13
import Derived.Test.YtfklpjdenigohaaCon14
import Derived.Test.YtfklpjdenigohaaCon31
namespace Go.Proofs.Ytfklpjdenigohaa
open Go Go.Tc Go.Fn
set_option linter.unusedVariables false

set_option maxHeartbeats 4000000 in
theorem c_spec_ConfigOfRow (A : Nat → Prop) (w : World) (hA : ∀ k, A k → k < w.heap.size) (v0_ : Value) (p0 : GMachine) (hp0 : Rd A w v0_ p0) (v1_ : Value) (p1 : (List Int)) (hp1 : Rd A w v1_ p1) (r : GConfig × Int × Int) (hr : F_spec_ConfigOfRow p0 p1 = some r) :
    Con Try.prog 23 [v0_, v1_] A w (fun x_ : Value × Value => .tuple #[.agg #[.int .i64 r.1.State, x_.1, x_.2], .int .i64 r.2.1, .int .i64 r.2.2]) (fun x_ => [.ow 2 x_.1 r.1.Left, .ow 2 x_.2 r.1.Right]) := by
  obtain ⟨v0_0, rfl, hp0_0⟩ := GMachine.open hp0
  refine Con_of (v := fun (r : GConfig × Int × Int) (x_ : Value × Value) => .tuple #[.agg #[.int .i64 r.1.State, x_.1, x_.2], .int .i64 r.2.1, .int .i64 r.2.2]) (fs := fun r x_ => [.ow 2 x_.1 r.1.Left, .ow 2 x_.2 r.1.Right]) Try.func23 rfl Try.ntmps23 rfl (((SH.start hA).start_rd rfl hp0_0).start_rd rfl hp1) rfl ?_ hr
  unfold F_spec_ConfigOfRow
  refine J_seq ?_
  refine J_region ?_
  refine JL_st (wants_none rfl) rfl (st_box' rfl (fun w hh => (cv_aggs ⟨cv_int, cv_int, (hh.cv 1 rfl), trivial⟩))) (fun b1 => ?_)
  refine JL_st (wants_none rfl) rfl (st_alloc zi_34 rfl) (fun b2 => ?_)
  refine JL_q (wants_none rfl) rfl (ex_assign rfl) ?_
  refine JL_q (wants_none rfl) rfl (ex_assign rfl) ?_
  refine JL_nil ?_
  refine N_then ?_
  refine J_seq ?_
  refine J_seq ?_
  refine J_region ?_
  refine JL_bnd fun r3 hr4 => ?_
  refine JL_call (wants_none rfl) rfl Try.call77 rfl (Ca_of0 fun w hh => c_spec_l05Is _ w (fun _ hk => hk.elim) _ _ (hh.bx_pa 1 rfl (GMachine.rdmk (Rd.mk_int _ _ _) (Rd.mk_int _ _ _) (hh.rd0 3 rfl)) rfl) _ hr4) (fun _ => ?_)
  refine JL_q (wants_none rfl) rfl (ex_not rfl) ?_
  refine JL_nil ?_
  refine N_then ?_
  refine J_if rfl (fun h5 => ?_) (fun h5 => ?_)
  · refine J_seq ?_
    refine J_region ?_
    refine JL_q (wants_none rfl) rfl (ex_build si_34 rfl .nil (fun w hh => trivial)) ?_
    refine JL_sk (wants_none rfl) (sk_store_bx' 0 ti_34 rfl rfl (fun w hh => (cv_aggs ⟨cv_int, cv_slice, cv_slice, trivial⟩)) rfl rfl rfl rfl) ?_
    refine JL_q (wants_none rfl) rfl (ex_assign rfl) ?_
    refine JL_q (wants_none rfl) rfl (ex_assign rfl) ?_
    refine JL_nil ?_
    refine N_then ?_
    refine J_ret ?_
    refine N_then_ret ?_
    refine N_ctx (fun w hh => SH.ow_nil (α := Int) 2 hh) ?_
    refine N_ctx (fun w hh => SH.ow_nil (α := Int) 2 hh) ?_
    exact N_ret3 rfl (rv_cell 2 rfl rfl ti_34 rfl) (rv_tmp rfl) (rv_tmp rfl) (fun w hh => ⟨((.slice none 0 0 : Value), (.slice none 0 0 : Value)), rfl, hh.sel [1, 0] rfl⟩)
  · refine J_skip ?_
    refine N_then ?_
    refine J_seq ?_
    refine J_region ?_
    refine JL_q (wants_none rfl) rfl (ex_move rfl) ?_
    refine JL_bnd fun r6 hr7 => ?_
    refine JL_call (wants_none rfl) rfl Try.call78 rfl (Ca_self (fun _ => rfl) fun w hh => c_spec_l33Decode _ w (fun _ hk => hk.elim) _ _ (hh.bx_pa 1 rfl (GMachine.rdmk (Rd.mk_int _ _ _) (Rd.mk_int _ _ _) (hh.rd0 3 rfl)) rfl) _ _ (hh.rd0 2 rfl) _ hr7) (fun x8 => ?_)
    obtain ⟨x8_0, x8_1⟩ := x8
    refine JL_q (wants_none rfl) rfl (ex_extract rfl rfl) ?_
    refine JL_q (wants_none rfl) rfl (ex_extract rfl rfl) ?_
    refine JL_q (wants_none rfl) rfl (ex_extract rfl rfl) ?_
    refine JL_sk (wants_none rfl) (sk_store_bx' 2 ti_34 rfl rfl (fun w hh => (cv_aggs ⟨cv_int, (hh.cv_ow 0 rfl), (hh.cv_ow 1 rfl), trivial⟩)) rfl rfl rfl rfl) ?_
    refine JL_q (wants_none rfl) rfl (ex_assign rfl) ?_
    refine JL_q (wants_none rfl) rfl (ex_assign rfl) ?_
    refine JL_nil ?_
    refine N_then ?_
    refine J_ret ?_
    exact N_ret3 rfl (rv_cell 2 rfl rfl ti_34 rfl) (rv_tmp rfl) (rv_tmp rfl) (fun w hh => ⟨(x8_0, x8_1), rfl, hh.sel [0, 1] rfl⟩)

set_option maxHeartbeats 4000000 in
theorem c_laws_heldConfig (A : Nat → Prop) (w : World) (hA : ∀ k, A k → k < w.heap.size) (v0_ : Value) (p0 : GConfig) (hp0 : Rd A w v0_ p0) (p1 : Int) (r : Int) (hr : F_laws_heldConfig p0 p1 = some r) :
    Con Try.prog 33 [v0_, .int .i64 p1] A w (fun x_ : Unit => .int .i64 r) (fun x_ => []) := by
  obtain ⟨v0_0, v0_1, rfl, hp0_0, hp0_1⟩ := GConfig.open hp0
  refine Con_of (v := fun (r : Int) (x_ : Unit) => .int .i64 r) (fs := fun r x_ => []) Try.func33 rfl Try.ntmps33 rfl (((SH.start hA).start_rd rfl hp0_0).start_rd rfl hp0_1) rfl ?_ hr
  unfold F_laws_heldConfig
  refine J_seq ?_
  refine J_region ?_
  refine JL_st (wants_none rfl) rfl (st_box' rfl (fun w hh => (cv_aggs ⟨cv_int, (hh.cv 1 rfl), (hh.cv 0 rfl), trivial⟩))) (fun b1 => ?_)
  refine JL_q (wants_none rfl) rfl (ex_assign rfl) ?_
  refine JL_nil ?_
  refine N_then ?_
  refine J_seq ?_
  refine J_region ?_
  refine JL_q (wants_none rfl) rfl (ex_fieldAddr fi_34_1 rfl rfl) ?_
  refine JL_q (wants_none rfl) rfl (ex_load_bx 0 ti_31 rfl rfl rfl) ?_
  refine JL_q (wants_none rfl) rfl (ex_move rfl) ?_
  refine JL_bnd fun r2 hr3 => ?_
  refine JL_call (wants_none rfl) rfl Try.call47 rfl (Ca_of0 fun w hh => c_laws_heldInt64S _ w (fun _ hk => hk.elim) _ _ (hh.rd0 2 rfl) _ _ hr3) (fun _ => ?_)
  refine JL_q (wants_none rfl) rfl (ex_assign rfl) ?_
  refine JL_nil ?_
  refine N_then ?_
  refine J_seq ?_
  refine J_seq ?_
  refine J_region ?_
  refine JL_q (wants_none rfl) rfl (ex_move rfl) ?_
  refine JL_q (wants_none rfl) rfl (ex_lss rfl rfl) ?_
  refine JL_nil ?_
  refine N_then ?_
  refine J_if rfl (fun h4 => ?_) (fun h4 => ?_)
  · refine J_seq ?_
    refine J_region ?_
    refine JL_q (wants_none rfl) rfl (ex_assign rfl) ?_
    refine JL_nil ?_
    refine N_then ?_
    refine J_ret ?_
    refine N_then_ret ?_
    exact N_ret1 rfl (rv_tmp rfl) (fun w hh => ⟨(), rfl, hh.sel [] rfl⟩)
  · refine J_skip ?_
    refine N_then ?_
    refine J_seq ?_
    refine J_region ?_
    refine JL_q (wants_none rfl) rfl (ex_fieldAddr fi_34_2 rfl rfl) ?_
    refine JL_q (wants_none rfl) rfl (ex_load_bx 0 ti_31 rfl rfl rfl) ?_
    refine JL_q (wants_none rfl) rfl (ex_move rfl) ?_
    refine JL_bnd fun r5 hr6 => ?_
    refine JL_call (wants_none rfl) rfl Try.call47 rfl (Ca_of0 fun w hh => c_laws_heldInt64S _ w (fun _ hk => hk.elim) _ _ (hh.rd0 1 rfl) _ _ hr6) (fun _ => ?_)
    refine JL_q (wants_none rfl) rfl (ex_assign rfl) ?_
    refine JL_nil ?_
    refine N_then ?_
    refine J_seq ?_
    refine J_seq ?_
    refine J_region ?_
    refine JL_q (wants_none rfl) rfl (ex_move rfl) ?_
    refine JL_q (wants_none rfl) rfl (ex_lss rfl rfl) ?_
    refine JL_nil ?_
    refine N_then ?_
    refine J_if rfl (fun h7 => ?_) (fun h7 => ?_)
    · refine J_seq ?_
      refine J_region ?_
      refine JL_q (wants_none rfl) rfl (ex_assign rfl) ?_
      refine JL_nil ?_
      refine N_then ?_
      refine J_ret ?_
      refine N_then_ret ?_
      exact N_ret1 rfl (rv_tmp rfl) (fun w hh => ⟨(), rfl, hh.sel [] rfl⟩)
    · refine J_skip ?_
      refine N_then ?_
      refine J_seq ?_
      refine J_region ?_
      refine JL_q (wants_none rfl) rfl (ex_move rfl) ?_
      refine JL_q (wants_none rfl) rfl (ex_assign rfl) ?_
      refine JL_nil ?_
      refine N_then ?_
      refine J_ret ?_
      exact N_ret1 rfl (rv_tmp rfl) (fun w hh => ⟨(), rfl, hh.sel [] rfl⟩)

set_option maxHeartbeats 4000000 in
theorem c_laws_FnExactConfigOfRow (A : Nat → Prop) (w : World) (hA : ∀ k, A k → k < w.heap.size) (v0_ : Value) (p0 : GMachine) (hp0 : Rd A w v0_ p0) (v1_ : Value) (p1 : (List Int)) (hp1 : Rd A w v1_ p1) (r : Bool) (hr : F_laws_FnExactConfigOfRow p0 p1 = some r) :
    Con Try.prog 4 [v0_, v1_] A w (fun x_ : Unit => .bool r) (fun x_ => []) := by
  obtain ⟨v0_0, rfl, hp0_0⟩ := GMachine.open hp0
  refine Con_of (v := fun (r : Bool) (x_ : Unit) => .bool r) (fs := fun r x_ => []) Try.func4 rfl Try.ntmps4 rfl (((SH.start hA).start_rd rfl hp0_0).start_rd rfl hp1) rfl ?_ hr
  unfold F_laws_FnExactConfigOfRow
  refine J_seq ?_
  refine J_region ?_
  refine JL_st (wants_none rfl) rfl (st_box' rfl (fun w hh => (cv_aggs ⟨cv_int, cv_int, (hh.cv 1 rfl), trivial⟩))) (fun b1 => ?_)
  refine JL_q (wants_none rfl) rfl (ex_assign rfl) ?_
  refine JL_nil ?_
  refine N_then ?_
  refine J_seq ?_
  refine J_seq ?_
  refine J_region ?_
  refine JL_q (wants_none rfl) rfl (ex_move rfl) ?_
  refine JL_q (wants_none rfl) rfl (ex_len_rd 1 Try.underlying31 rfl rfl) ?_
  refine JL_q (wants_none rfl) rfl (ex_gtr rfl rfl) ?_
  refine JL_nil ?_
  refine N_then ?_
  refine J_if rfl (fun h2 => ?_) (fun h2 => ?_)
  · refine J_seq ?_
    refine J_region ?_
    refine JL_q (wants_none rfl) rfl (ex_assign rfl) ?_
    refine JL_nil ?_
    refine N_then ?_
    refine J_ret ?_
    refine N_then_ret ?_
    exact N_ret1 rfl (rv_tmp rfl) (fun w hh => ⟨(), rfl, hh.sel [] rfl⟩)
  · refine J_skip ?_
    refine N_then ?_
    refine J_seq ?_
    refine J_region ?_
    refine JL_q (wants_none rfl) rfl (ex_assign rfl) ?_
    refine JL_nil ?_
    refine N_then ?_
    refine J_seq ?_
    refine J_region ?_
    refine JL_q (wants_none rfl) rfl (ex_load_bx_agg 0 ti_30 rfl rfl rfl rfl) ?_
    refine JL_q (wants_none rfl) rfl (ex_move rfl) ?_
    refine JL_bnd fun r3 hr4 => ?_
    refine JL_call (wants_none rfl) rfl Try.call22 rfl (Ca_of0 fun w hh => c_laws_szMachine _ w (fun _ hk => hk.elim) _ _ (GMachine.rdmk (Rd.mk_int _ _ _) (Rd.mk_int _ _ _) (hh.rd0 2 rfl)) _ _ hr4) (fun _ => ?_)
    refine JL_q (wants_none rfl) rfl (ex_assign rfl) ?_
    refine JL_nil ?_
    refine N_then ?_
    refine J_seq ?_
    refine J_seq ?_
    refine J_region ?_
    refine JL_q (wants_none rfl) rfl (ex_move rfl) ?_
    refine JL_q (wants_none rfl) rfl (ex_lss rfl rfl) ?_
    refine JL_nil ?_
    refine N_then ?_
    refine J_if rfl (fun h5 => ?_) (fun h5 => ?_)
    · refine J_seq ?_
      refine J_region ?_
      refine JL_q (wants_none rfl) rfl (ex_assign rfl) ?_
      refine JL_nil ?_
      refine N_then ?_
      refine J_ret ?_
      refine N_then_ret ?_
      exact N_ret1 rfl (rv_tmp rfl) (fun w hh => ⟨(), rfl, hh.sel [] rfl⟩)
    · refine J_skip ?_
      refine N_then ?_
      refine J_seq ?_
      refine J_region ?_
      refine JL_q (wants_none rfl) rfl (ex_load_bx_agg 0 ti_30 rfl rfl rfl rfl) ?_
      refine JL_bnd fun r6 hr7 => ?_
      refine JL_call (wants_none rfl) rfl Try.call24 rfl (Ca_self (fun _ => rfl) fun w hh => c_laws_toMachine _ w (fun _ hk => hk.elim) _ _ (GMachine.rdmk (Rd.mk_int _ _ _) (Rd.mk_int _ _ _) (hh.rd0 2 rfl)) _ hr7) (fun x8 => ?_)
      refine JL_q (wants_none rfl) rfl (ex_move rfl) ?_
      refine JL_bnd fun r9 hr10 => ?_
      refine JL_call (wants_none rfl) rfl Try.call25 rfl (Ca_self (fun _ => rfl) fun w hh => c_laws_toInt64S _ w (fun _ hk => hk.elim) _ _ (hh.rd0 2 rfl) _ hr10) (fun x11 => ?_)
      refine JL_bnd fun r12 hr13 => ?_
      refine JL_call (wants_none rfl) rfl Try.call23 rfl (Ca_self (fun _ => rfl) fun w hh => c_spec_ConfigOfRow _ w (fun _ hk => hk.elim) _ _ (GMachine.rdmk (Rd.mk_int _ _ _) (Rd.mk_int _ _ _) (hh.ow0 1 rfl)) _ _ (hh.ow0 0 rfl) _ hr13) (fun x14 => ?_)
      obtain ⟨x14_0, x14_1⟩ := x14
      refine JL_q (wants_none rfl) rfl (ex_move rfl) ?_
      refine JL_q (wants_none rfl) rfl (ex_extract rfl rfl) ?_
      refine JL_q (wants_none rfl) rfl (ex_extract rfl rfl) ?_
      refine JL_q (wants_none rfl) rfl (ex_extract rfl rfl) ?_
      refine JL_st (wants_none rfl) rfl (st_alloc zi_34 rfl) (fun b15 => ?_)
      refine JL_sk (wants_none rfl) (sk_store_bx' 0 ti_34 rfl rfl (fun w hh => (cv_aggs ⟨cv_int, (hh.cv_ow 1 rfl), (hh.cv_ow 2 rfl), trivial⟩)) rfl rfl rfl rfl) ?_
      refine JL_q (wants_none rfl) rfl (ex_assign rfl) ?_
      refine JL_q (wants_none rfl) rfl (ex_assign rfl) ?_
      refine JL_nil ?_
      refine N_then ?_
      refine J_seq ?_
      refine J_region ?_
      refine JL_q (wants_none rfl) rfl (ex_load_bx_agg 5 ti_30 rfl rfl rfl rfl) ?_
      refine JL_bnd fun r16 hr17 => ?_
      refine JL_call (wants_none rfl) rfl Try.call24 rfl (Ca_self (fun _ => rfl) fun w hh => c_laws_toMachine _ w (fun _ hk => hk.elim) _ _ (GMachine.rdmk (Rd.mk_int _ _ _) (Rd.mk_int _ _ _) (hh.rd0 7 rfl)) _ hr17) (fun x18 => ?_)
      refine JL_st (wants_none rfl) rfl (st_alloc zi_39 rfl) (fun b19 => ?_)
      refine JL_sk (wants_none rfl) (sk_store_bx' 0 ti_39 rfl rfl (fun w hh => (cv_aggs ⟨cv_int, cv_int, (hh.cv_ow 1 rfl), trivial⟩)) rfl rfl rfl rfl) ?_
      refine JL_nil ?_
      refine N_then ?_
      refine J_seq ?_
      refine J_region ?_
      refine JL_q (wants_none rfl) rfl (ex_move rfl) ?_
      refine JL_bnd fun r20 hr21 => ?_
      refine JL_call (wants_none rfl) rfl Try.call25 rfl (Ca_self (fun _ => rfl) fun w hh => c_laws_toInt64S _ w (fun _ hk => hk.elim) _ _ (hh.rd0 8 rfl) _ hr21) (fun x22 => ?_)
      refine JL_q (wants_none rfl) rfl (ex_assign rfl) ?_
      refine JL_nil ?_
      refine N_then ?_
      refine J_seq ?_
      refine J_region ?_
      refine JL_q (wants_none rfl) rfl (ex_load_bx_agg 1 ti_39 rfl rfl rfl rfl) ?_
      refine JL_q (wants_none rfl) rfl (ex_move rfl) ?_
      refine JL_bnd fun r23 hr24 => ?_
      refine JL_call (wants_none rfl) rfl Try.call26 rfl (Ca_self (fun _ => rfl) fun w hh => c_impl_ConfigOfRow _ w (fun _ hk => hk.elim) _ _ (GMachine.rdmk (Rd.mk_int _ _ _) (Rd.mk_int _ _ _) (hh.ow0 2 rfl)) _ _ (hh.ow0 0 rfl) _ hr24) (fun x25 => ?_)
      obtain ⟨x25_0, x25_1, x25_2, x25_3⟩ := x25
      refine JL_ctx (fun w hh => hh.tkn_rd 0 rfl) ?_
      refine JL_ctx (fun w hh => hh.tkn_rd 2 rfl) ?_
      refine JL_q (wants_none rfl) rfl (ex_move rfl) ?_
      refine JL_q (wants_none rfl) rfl (ex_extract rfl rfl) ?_
      refine JL_q (wants_none rfl) rfl (ex_extract rfl rfl) ?_
      refine JL_q (wants_none rfl) rfl (ex_extract rfl rfl) ?_
      refine JL_st (wants_none rfl) rfl (st_alloc zi_34 rfl) (fun b26 => ?_)
      refine JL_sk (wants_none rfl) (sk_store_bx' 0 ti_34 rfl rfl (fun w hh => (cv_aggs ⟨cv_int, (hh.cv 2 rfl), (hh.cv 1 rfl), trivial⟩)) rfl rfl rfl rfl) ?_
      refine JL_q (wants_none rfl) rfl (ex_assign rfl) ?_
      refine JL_q (wants_none rfl) rfl (ex_assign rfl) ?_
      refine JL_nil ?_
      refine N_then ?_
      refine J_seq ?_
      refine J_cut' (S' := Unit) (G' := Unit) (fun _ _ => [(1, v1_), (2, .pointer (some ⟨b1, 0, none⟩)), (6, .pointer (some ⟨b15, 0, none⟩)), (7, .int .i64 r12.2.1), (8, .int .i64 r12.2.2), (9, .pointer (some ⟨b19, 0, none⟩)), (10, x22), (11, .pointer (some ⟨b26, 0, none⟩)), (12, .int .i64 r23.2.1), (13, .int .i64 r23.2.2)]) (fun _ _ => [.rd v1_ p1, .rd v0_0 p0.Rules, .bx b1 30 [.int .i64 p0.Symbols, .int .i64 p0.States, v0_0], .ow 2 x14_0 r12.1.Left, .ow 2 x14_1 r12.1.Right, .bx b15 34 [.int .i64 r12.1.State, x14_0, x14_1], .ow 161 x18 r16.Rules, .bx b19 39 [.int .i64 r16.Symbols, .int .i64 r16.States, x18], .ow 2 x22 r20, .rd x25_0 r23.1.Left, .tkn x25_0 r23.1.Left x25_1, .rd x25_2 r23.1.Right, .tkn x25_2 r23.1.Right x25_3, .bx b26 34 [.int .i64 r23.1.State, x25_0, x25_2]]) ?_ (fun s27 g28 => ?_)
      · refine J_seq ?_
        refine J_region ?_
        refine JL_q (wants_none rfl) rfl (ex_load_bx_agg 0 ti_34 rfl rfl rfl rfl) ?_
        refine JL_q (wants_none rfl) rfl (ex_load_bx_agg 8 ti_34 rfl rfl rfl rfl) ?_
        refine JL_bnd fun r29 hr30 => ?_
        refine JL_call (wants_none rfl) rfl Try.call27 rfl (Ca_of0 fun w hh => c_laws_eqConfig _ w (fun _ hk => hk.elim) _ _ (GConfig.rdmk (Rd.mk_int _ _ _) (hh.rd0 2 rfl) (hh.rd0 1 rfl)) _ _ (GConfig.rdmk (Rd.mk_int _ _ _) (hh.ow0 9 rfl) (hh.ow0 10 rfl)) _ hr30) (fun _ => ?_)
        refine JL_q (wants_none rfl) rfl (ex_not rfl) ?_
        refine JL_q (wants_none rfl) rfl (ex_move rfl) ?_
        refine JL_cond (fun h31 => ?_) (fun h31 => ?_)
        · refine JL_passed rfl rfl rfl h31 ?_
          refine JL_passed rfl rfl rfl h31 ?_
          refine JL_passed rfl rfl rfl h31 ?_
          refine JL_q (wants_none rfl) rfl (ex_pick_true rfl h31 rfl) ?_
          refine JL_q (wants_none rfl) rfl (ex_move rfl) ?_
          refine JL_passed rfl rfl rfl rfl ?_
          refine JL_passed rfl rfl rfl rfl ?_
          refine JL_passed rfl rfl rfl rfl ?_
          refine JL_q (wants_none rfl) rfl (ex_pick_true rfl rfl rfl) ?_
          refine JL_nil ?_
          refine N_then ?_
          refine J_if_true rfl rfl ?_
          refine J_seq ?_
          refine J_region ?_
          refine JL_q (wants_none rfl) rfl (ex_assign rfl) ?_
          refine JL_nil ?_
          refine N_then ?_
          refine J_ret ?_
          refine N_mid_ret ?_
          refine N_then_ret ?_
          exact N_ret1 rfl (rv_tmp rfl) (fun w hh => ⟨(), rfl, hh.sel [] rfl⟩)
        · refine JL_q (wants_some rfl rfl rfl h31) rfl (ex_move rfl) ?_
          refine JL_q (wants_some rfl rfl rfl h31) rfl (ex_move rfl) ?_
          refine JL_q (wants_some rfl rfl rfl h31) rfl (ex_neq rfl rfl) ?_
          refine JL_q (wants_none rfl) rfl (ex_pick_false rfl h31 rfl) ?_
          refine JL_q (wants_none rfl) rfl (ex_move rfl) ?_
          refine JL_cond (fun h32 => ?_) (fun h32 => ?_)
          · refine JL_passed rfl rfl rfl h32 ?_
            refine JL_passed rfl rfl rfl h32 ?_
            refine JL_passed rfl rfl rfl h32 ?_
            refine JL_q (wants_none rfl) rfl (ex_pick_true rfl h32 rfl) ?_
            refine JL_nil ?_
            refine N_then ?_
            refine J_if_true rfl rfl ?_
            refine J_seq ?_
            refine J_region ?_
            refine JL_q (wants_none rfl) rfl (ex_assign rfl) ?_
            refine JL_nil ?_
            refine N_then ?_
            refine J_ret ?_
            refine N_mid_ret ?_
            refine N_then_ret ?_
            exact N_ret1 rfl (rv_tmp rfl) (fun w hh => ⟨(), rfl, hh.sel [] rfl⟩)
          · refine JL_q (wants_some rfl rfl rfl h32) rfl (ex_move rfl) ?_
            refine JL_q (wants_some rfl rfl rfl h32) rfl (ex_move rfl) ?_
            refine JL_q (wants_some rfl rfl rfl h32) rfl (ex_neq rfl rfl) ?_
            refine JL_q (wants_none rfl) rfl (ex_pick_false rfl h32 rfl) ?_
            refine JL_nil ?_
            refine N_then ?_
            refine J_if rfl (fun h33 => ?_) (fun h33 => ?_)
            · refine J_seq ?_
              refine J_region ?_
              refine JL_q (wants_none rfl) rfl (ex_assign rfl) ?_
              refine JL_nil ?_
              refine N_then ?_
              refine J_ret ?_
              refine N_mid_ret ?_
              refine N_then_ret ?_
              exact N_ret1 rfl (rv_tmp rfl) (fun w hh => ⟨(), rfl, hh.sel [] rfl⟩)
            · refine J_skip ?_
              exact N_meet' () ⟨rfl, rfl, rfl, rfl, rfl, rfl, rfl, rfl, rfl, rfl, trivial⟩ [14, 15, 13, 9, 10, 8, 7, 6, 5, 2, 3, 1, 4, 0] rfl rfl
      · refine N_then ?_
        refine J_seq ?_
        refine J_seq ?_
        refine J_draw [] (by kernel_rfl) ?_
        refine JP_take (i := 0) [0, 1, 2, 3, 4, 5, 6, 7, 8, 9, 10, 11, 12, 13] [] rfl (by kernel_rfl) (by kernel_rfl) (by kernel_rfl) rfl rfl (wants_none rfl) rfl (ex_load_bx_agg 7 ti_39 rfl rfl rfl rfl) ?_
        refine JP_take (i := 1) [0, 1, 2, 3, 4, 5, 6, 7, 8, 9, 10, 11, 12, 13] [] rfl (by kernel_rfl) (by kernel_rfl) (by kernel_rfl) rfl rfl (wants_none rfl) rfl (ex_load_bx_agg 2 ti_30 rfl rfl rfl rfl) ?_
        refine JP_go [0, 1, 2, 3, 4, 5, 6, 7, 8, 9, 10, 11, 12, 13] [] rfl rfl rfl (fun w35 h1_36 hp34 => ?_)
        refine JD_bnd fun r37 hr38 => ?_
        refine JD_one (i := 2) (by kernel_rfl) ?_
        refine JO_call rfl (wants_none rfl) rfl Try.call24 rfl (Ca_self (fun _ => rfl) fun w hh => c_laws_toMachine _ w (fun _ hk => hk.elim) _ _ (GMachine.rdmk (Rd.mk_int _ _ _) (Rd.mk_int _ _ _) (hh.rd0 1 rfl)) _ hr38) (fun x39 => ?_)
        refine JD_bnd fun r40 hr41 => ?_
        refine JD_one (i := 3) (by kernel_rfl) ?_
        refine JO_call rfl (wants_none rfl) rfl Try.call28 rfl (Ca_of0 fun w hh => c_laws_eqMachine _ w (fun _ hk => hk.elim) _ _ (GMachine.rdmk (Rd.mk_int _ _ _) (Rd.mk_int _ _ _) (hh.ow0 7 rfl)) _ _ (GMachine.rdmk (Rd.mk_int _ _ _) (Rd.mk_int _ _ _) (hh.ow0 0 rfl)) _ hr41) (fun _ => ?_)
        refine JD_take (i := 4) hp34 rfl (by kernel_rfl) (by kernel_rfl) (by kernel_rfl) (wants_none rfl) rfl (ex_not rfl) ?_
        refine JD_done (by kernel_rfl) ?_
        refine N_then ?_
        refine J_if rfl (fun h42 => ?_) (fun h42 => ?_)
        · refine J_seq ?_
          refine J_region ?_
          refine JL_q (wants_none rfl) rfl (ex_assign rfl) ?_
          refine JL_nil ?_
          refine N_then ?_
          refine J_ret ?_
          refine N_then_ret ?_
          exact N_ret1 rfl (rv_tmp rfl) (fun w hh => ⟨(), rfl, hh.sel [] rfl⟩)
        · refine J_skip ?_
          refine N_then ?_
          refine J_seq ?_
          refine J_seq ?_
          refine J_region ?_
          refine JL_q (wants_none rfl) rfl (ex_move rfl) ?_
          refine JL_q (wants_none rfl) rfl (ex_move rfl) ?_
          refine JL_bnd fun r43 hr44 => ?_
          refine JL_call (wants_none rfl) rfl Try.call25 rfl (Ca_self (fun _ => rfl) fun w hh => c_laws_toInt64S _ w (fun _ hk => hk.elim) _ _ (hh.rd0 1 rfl) _ hr44) (fun x45 => ?_)
          refine JL_bnd fun r46 hr47 => ?_
          refine JL_call (wants_none rfl) rfl Try.call29 rfl (Ca_of0 fun w hh => c_laws_eqInt64S _ w (fun _ hk => hk.elim) _ _ (hh.ow0 10 rfl) _ _ (hh.ow0 0 rfl) _ hr47) (fun _ => ?_)
          refine JL_q (wants_none rfl) rfl (ex_not rfl) ?_
          refine JL_nil ?_
          refine N_then ?_
          refine J_if rfl (fun h48 => ?_) (fun h48 => ?_)
          · refine J_seq ?_
            refine J_region ?_
            refine JL_q (wants_none rfl) rfl (ex_assign rfl) ?_
            refine JL_nil ?_
            refine N_then ?_
            refine J_ret ?_
            refine N_then_ret ?_
            exact N_ret1 rfl (rv_tmp rfl) (fun w hh => ⟨(), rfl, hh.sel [] rfl⟩)
          · refine J_skip ?_
            refine N_then ?_
            refine J_seq ?_
            refine J_region ?_
            refine JL_q (wants_none rfl) rfl (ex_assign rfl) ?_
            refine JL_nil ?_
            refine N_then ?_
            refine J_seq ?_
            refine J_region ?_
            refine JL_q (wants_none rfl) rfl (ex_load_bx_agg 9 ti_39 rfl rfl rfl rfl) ?_
            refine JL_q (wants_none rfl) rfl (ex_move rfl) ?_
            refine JL_inline (wants_none rfl) rfl Try.call30 rfl Try.func30 rfl Try.ntmps30 rfl rfl (fun K_ hK49 => ?_)
            refine J_seq ?_
            refine J_region ?_
            refine JL_st (wants_none rfl) rfl (st_box' rfl (fun w hh => (cv_aggs ⟨cv_int, cv_int, (hh.cv_ow 8 rfl), trivial⟩))) (fun b50 => ?_)
            refine JL_q (wants_none rfl) rfl (ex_assign rfl) ?_
            refine JL_nil ?_
            refine N_then ?_
            refine J_seq ?_
            refine J_region ?_
            refine JL_q (wants_none rfl) rfl (ex_fieldAddr fi_39_2 rfl rfl) ?_
            refine JL_q (wants_none rfl) rfl (ex_load_bx 0 ti_37 rfl rfl rfl) ?_
            refine JL_q (wants_none rfl) rfl (ex_move rfl) ?_
            refine JL_bnd fun r51 hr52 => ?_
            refine JL_ctx (fun w hh => hh.tokf 9 rfl rfl) ?_
            refine JL_mark 0 [1, 2, 3, 6, 7, 8, 9, 11, 12, 14, 16, 17] mk_laws_markRuleS (wants_none rfl) rfl Try.call85 rfl rfl rfl rfl (((SH.start hA).start_rd rfl hp0_0).start_rd rfl hp1) rfl hr52 ?_
            refine JL_ctx (fun w hh => hh.tkn_rd 13 rfl) ?_
            refine JL_ctx (fun w hh => hh.tkn_rd 15 rfl) ?_
            refine JL_q (wants_none rfl) rfl (ex_assign rfl) ?_
            refine JL_nil ?_
            refine N_then ?_
            refine J_seq ?_
            refine J_region ?_
            refine JL_q (wants_none rfl) rfl (ex_move rfl) ?_
            refine JL_q (wants_none rfl) rfl (ex_assign rfl) ?_
            refine JL_nil ?_
            refine N_then ?_
            refine J_ret ?_
            refine N_inl1 hK49 rfl (rv_tmp rfl) ?_
            refine JL_q (wants_none rfl) rfl (ex_assign rfl) ?_
            refine JL_nil ?_
            refine N_then ?_
            refine J_seq ?_
            refine J_region ?_
            refine JL_q (wants_none rfl) rfl (ex_move rfl) ?_
            refine JL_q (wants_none rfl) rfl (ex_move rfl) ?_
            refine JL_bnd fun r53 hr54 => ?_
            refine JL_ctx (fun w hh => hh.tokf 14 rfl rfl) ?_
            refine JL_mark 0 [4, 7, 8, 9, 10, 11, 12, 13, 14, 16, 17, 18] mk_laws_markInt64S (wants_none rfl) rfl Try.call31 rfl rfl rfl rfl (((SH.start hA).start_rd rfl hp0_0).start_rd rfl hp1) rfl hr54 ?_
            refine JL_ctx (fun w hh => hh.tkn_rd 14 rfl) ?_
            refine JL_ctx (fun w hh => hh.tkn_rd 14 rfl) ?_
            refine JL_ctx (fun w hh => hh.tkn_rd 6 rfl) ?_
            refine JL_q (wants_none rfl) rfl (ex_assign rfl) ?_
            refine JL_nil ?_
            refine N_then ?_
            refine J_seq ?_
            refine J_cut' (S' := Unit) (G' := Unit) (fun _ _ => [(1, v1_), (2, .pointer (some ⟨b1, 0, none⟩)), (6, .pointer (some ⟨b15, 0, none⟩)), (7, .int .i64 r12.2.1), (8, .int .i64 r12.2.2), (11, .pointer (some ⟨b26, 0, none⟩))]) (fun _ _ => [.rd v1_ p1, .rd v0_0 p0.Rules, .bx b1 30 [.int .i64 p0.Symbols, .int .i64 p0.States, v0_0], .ow 2 x14_0 r12.1.Left, .ow 2 x14_1 r12.1.Right, .bx b15 34 [.int .i64 r12.1.State, x14_0, x14_1], .rd x25_0 r23.1.Left, .tkn x25_0 r23.1.Left x25_1, .rd x25_2 r23.1.Right, .tkn x25_2 r23.1.Right x25_3, .bx b26 34 [.int .i64 r23.1.State, x25_0, x25_2]]) ?_ (fun s55 g56 => ?_)
            · refine J_seq ?_
              refine J_region ?_
              refine JL_q (wants_none rfl) rfl (ex_move rfl) ?_
              refine JL_q (wants_none rfl) rfl (ex_lss rfl rfl) ?_
              refine JL_q (wants_none rfl) rfl (ex_move rfl) ?_
              refine JL_cond (fun h57 => ?_) (fun h57 => ?_)
              · refine JL_passed rfl rfl rfl h57 ?_
                refine JL_passed rfl rfl rfl h57 ?_
                refine JL_passed rfl rfl rfl h57 ?_
                refine JL_passed rfl rfl rfl h57 ?_
                refine JL_q (wants_none rfl) rfl (ex_pick_true rfl h57 rfl) ?_
                refine JL_q (wants_none rfl) rfl (ex_move rfl) ?_
                refine JL_passed rfl rfl rfl rfl ?_
                refine JL_passed rfl rfl rfl rfl ?_
                refine JL_passed rfl rfl rfl rfl ?_
                refine JL_q (wants_none rfl) rfl (ex_pick_true rfl rfl rfl) ?_
                refine JL_q (wants_none rfl) rfl (ex_move rfl) ?_
                refine JL_passed rfl rfl rfl rfl ?_
                refine JL_passed rfl rfl rfl rfl ?_
                refine JL_passed rfl rfl rfl rfl ?_
                refine JL_q (wants_none rfl) rfl (ex_pick_true rfl rfl rfl) ?_
                refine JL_nil ?_
                refine N_then ?_
                refine J_if_true rfl rfl ?_
                refine J_seq ?_
                refine J_region ?_
                refine JL_q (wants_none rfl) rfl (ex_assign rfl) ?_
                refine JL_nil ?_
                refine N_then ?_
                refine J_ret ?_
                refine N_mid_ret ?_
                refine N_then_ret ?_
                exact N_ret1 rfl (rv_tmp rfl) (fun w hh => ⟨(), rfl, hh.sel [] rfl⟩)
              · refine JL_q (wants_some rfl rfl rfl h57) rfl (ex_load_bx_agg 18 ti_34 rfl rfl rfl rfl) ?_
                refine JL_q (wants_some rfl rfl rfl h57) rfl (ex_load_bx_agg 14 ti_34 rfl rfl rfl rfl) ?_
                refine JL_bnd fun r58 hr59 => ?_
                refine JL_call (wants_some rfl rfl rfl h57) rfl Try.call27 rfl (Ca_of0 fun w hh => c_laws_eqConfig _ w (fun _ hk => hk.elim) _ _ (GConfig.rdmk (Rd.mk_int _ _ _) (hh.rd0 1 rfl) (hh.rd0 2 rfl)) _ _ (GConfig.rdmk (Rd.mk_int _ _ _) (hh.ow0 12 rfl) (hh.ow0 13 rfl)) _ hr59) (fun _ => ?_)
                refine JL_q (wants_some rfl rfl rfl h57) rfl (ex_not rfl) ?_
                refine JL_q (wants_none rfl) rfl (ex_pick_false rfl h57 rfl) ?_
                refine JL_q (wants_none rfl) rfl (ex_move rfl) ?_
                refine JL_cond (fun h60 => ?_) (fun h60 => ?_)
                · refine JL_passed rfl rfl rfl h60 ?_
                  refine JL_passed rfl rfl rfl h60 ?_
                  refine JL_passed rfl rfl rfl h60 ?_
                  refine JL_q (wants_none rfl) rfl (ex_pick_true rfl h60 rfl) ?_
                  refine JL_q (wants_none rfl) rfl (ex_move rfl) ?_
                  refine JL_passed rfl rfl rfl rfl ?_
                  refine JL_passed rfl rfl rfl rfl ?_
                  refine JL_passed rfl rfl rfl rfl ?_
                  refine JL_q (wants_none rfl) rfl (ex_pick_true rfl rfl rfl) ?_
                  refine JL_nil ?_
                  refine N_then ?_
                  refine J_if_true rfl rfl ?_
                  refine J_seq ?_
                  refine J_region ?_
                  refine JL_q (wants_none rfl) rfl (ex_assign rfl) ?_
                  refine JL_nil ?_
                  refine N_then ?_
                  refine J_ret ?_
                  refine N_mid_ret ?_
                  refine N_then_ret ?_
                  exact N_ret1 rfl (rv_tmp rfl) (fun w hh => ⟨(), rfl, hh.sel [] rfl⟩)
                · refine JL_q (wants_some rfl rfl rfl h60) rfl (ex_move rfl) ?_
                  refine JL_q (wants_some rfl rfl rfl h60) rfl (ex_move rfl) ?_
                  refine JL_q (wants_some rfl rfl rfl h60) rfl (ex_neq rfl rfl) ?_
                  refine JL_q (wants_none rfl) rfl (ex_pick_false rfl h60 rfl) ?_
                  refine JL_q (wants_none rfl) rfl (ex_move rfl) ?_
                  refine JL_cond (fun h61 => ?_) (fun h61 => ?_)
                  · refine JL_passed rfl rfl rfl h61 ?_
                    refine JL_passed rfl rfl rfl h61 ?_
                    refine JL_passed rfl rfl rfl h61 ?_
                    refine JL_q (wants_none rfl) rfl (ex_pick_true rfl h61 rfl) ?_
                    refine JL_nil ?_
                    refine N_then ?_
                    refine J_if_true rfl rfl ?_
                    refine J_seq ?_
                    refine J_region ?_
                    refine JL_q (wants_none rfl) rfl (ex_assign rfl) ?_
                    refine JL_nil ?_
                    refine N_then ?_
                    refine J_ret ?_
                    refine N_mid_ret ?_
                    refine N_then_ret ?_
                    exact N_ret1 rfl (rv_tmp rfl) (fun w hh => ⟨(), rfl, hh.sel [] rfl⟩)
                  · refine JL_q (wants_some rfl rfl rfl h61) rfl (ex_move rfl) ?_
                    refine JL_q (wants_some rfl rfl rfl h61) rfl (ex_move rfl) ?_
                    refine JL_q (wants_some rfl rfl rfl h61) rfl (ex_neq rfl rfl) ?_
                    refine JL_q (wants_none rfl) rfl (ex_pick_false rfl h61 rfl) ?_
                    refine JL_nil ?_
                    refine N_then ?_
                    refine J_if rfl (fun h62 => ?_) (fun h62 => ?_)
                    · refine J_seq ?_
                      refine J_region ?_
                      refine JL_q (wants_none rfl) rfl (ex_assign rfl) ?_
                      refine JL_nil ?_
                      refine N_then ?_
                      refine J_ret ?_
                      refine N_mid_ret ?_
                      refine N_then_ret ?_
                      exact N_ret1 rfl (rv_tmp rfl) (fun w hh => ⟨(), rfl, hh.sel [] rfl⟩)
                    · refine J_skip ?_
                      exact N_meet' () ⟨rfl, rfl, rfl, rfl, rfl, rfl, trivial⟩ [5, 6, 11, 12, 13, 14, 1, 16, 2, 17, 18] rfl rfl
            · refine N_then ?_
              refine J_seq ?_
              refine J_region ?_
              refine JL_q (wants_none rfl) rfl (ex_assign rfl) ?_
              refine JL_nil ?_
              refine N_then ?_
              refine J_seq ?_
              refine J_region ?_
              refine JL_q (wants_none rfl) rfl (ex_load_bx_agg 10 ti_34 rfl rfl rfl rfl) ?_
              refine JL_q (wants_none rfl) rfl (ex_move rfl) ?_
              refine JL_inline (wants_none rfl) rfl Try.call32 rfl Try.func32 rfl Try.ntmps32 rfl rfl (fun K_ hK63 => ?_)
              refine J_seq ?_
              refine J_region ?_
              refine JL_st (wants_none rfl) rfl (st_box' rfl (fun w hh => (cv_aggs ⟨cv_int, (hh.cv 6 rfl), (hh.cv 8 rfl), trivial⟩))) (fun b64 => ?_)
              refine JL_q (wants_none rfl) rfl (ex_assign rfl) ?_
              refine JL_nil ?_
              refine N_then ?_
              refine J_seq ?_
              refine J_region ?_
              refine JL_q (wants_none rfl) rfl (ex_fieldAddr fi_34_1 rfl rfl) ?_
              refine JL_q (wants_none rfl) rfl (ex_load_bx 0 ti_31 rfl rfl rfl) ?_
              refine JL_q (wants_none rfl) rfl (ex_move rfl) ?_
              refine JL_bnd fun r65 hr66 => ?_
              refine JL_mark 8 [0, 3, 4, 5, 6, 10, 11] mk_laws_markInt64S (wants_none rfl) rfl Try.call31 rfl rfl rfl rfl (((SH.start hA).start_rd rfl hp0_0).start_rd rfl hp1) rfl hr66 ?_
              refine JL_ctx (fun w hh => hh.tkn_rd 9 rfl) ?_
              refine JL_q (wants_none rfl) rfl (ex_assign rfl) ?_
              refine JL_nil ?_
              refine N_then ?_
              refine J_seq ?_
              refine J_region ?_
              refine JL_q (wants_none rfl) rfl (ex_fieldAddr fi_34_2 rfl rfl) ?_
              refine JL_q (wants_none rfl) rfl (ex_load_bx 5 ti_31 rfl rfl rfl) ?_
              refine JL_q (wants_none rfl) rfl (ex_move rfl) ?_
              refine JL_bnd fun r67 hr68 => ?_
              refine JL_mark 10 [2, 5, 6, 7, 8, 9, 11] mk_laws_markInt64S (wants_none rfl) rfl Try.call31 rfl rfl rfl rfl (((SH.start hA).start_rd rfl hp0_0).start_rd rfl hp1) rfl hr68 ?_
              refine JL_ctx (fun w hh => hh.tkn_rd 4 rfl) ?_
              refine JL_q (wants_none rfl) rfl (ex_assign rfl) ?_
              refine JL_nil ?_
              refine N_then ?_
              refine J_seq ?_
              refine J_region ?_
              refine JL_q (wants_none rfl) rfl (ex_move rfl) ?_
              refine JL_q (wants_none rfl) rfl (ex_assign rfl) ?_
              refine JL_nil ?_
              refine N_then ?_
              refine J_ret ?_
              refine N_inl1 hK63 rfl (rv_tmp rfl) ?_
              refine JL_q (wants_none rfl) rfl (ex_assign rfl) ?_
              refine JL_nil ?_
              refine N_then ?_
              refine J_seq ?_
              refine J_region ?_
              refine JL_q (wants_none rfl) rfl (ex_assign rfl) ?_
              refine JL_nil ?_
              refine N_then ?_
              refine J_seq ?_
              refine J_region ?_
              refine JL_q (wants_none rfl) rfl (ex_load_bx_agg 11 ti_34 rfl rfl rfl rfl) ?_
              refine JL_q (wants_none rfl) rfl (ex_move rfl) ?_
              refine JL_bnd fun r69 hr70 => ?_
              refine JL_call (wants_none rfl) rfl Try.call33 rfl (Ca_of0 fun w hh => c_laws_heldConfig _ w (fun _ hk => hk.elim) _ _ (GConfig.rdmk (Rd.mk_int _ _ _) (hh.rd0 0 rfl) (hh.rd0 1 rfl)) _ _ hr70) (fun _ => ?_)
              refine JL_q (wants_none rfl) rfl (ex_assign rfl) ?_
              refine JL_nil ?_
              refine N_then ?_
              refine J_seq ?_
              refine J_seq ?_
              refine J_region ?_
              refine JL_q (wants_none rfl) rfl (ex_move rfl) ?_
              refine JL_q (wants_none rfl) rfl (ex_lss rfl rfl) ?_
              refine JL_nil ?_
              refine N_then ?_
              refine J_if rfl (fun h71 => ?_) (fun h71 => ?_)
              · refine J_seq ?_
                refine J_region ?_
                refine JL_q (wants_none rfl) rfl (ex_assign rfl) ?_
                refine JL_nil ?_
                refine N_then ?_
                refine J_ret ?_
                refine N_then_ret ?_
                exact N_ret1 rfl (rv_tmp rfl) (fun w hh => ⟨(), rfl, hh.sel [] rfl⟩)
              · refine J_skip ?_
                refine N_then ?_
                refine J_seq ?_
                refine J_seq ?_
                refine J_region ?_
                refine JL_q (wants_none rfl) rfl (ex_move rfl) ?_
                refine JL_q (wants_none rfl) rfl (ex_move rfl) ?_
                refine JL_q (wants_none rfl) rfl (ex_neq rfl rfl) ?_
                refine JL_nil ?_
                refine N_then ?_
                refine J_if rfl (fun h72 => ?_) (fun h72 => ?_)
                · refine J_seq ?_
                  refine J_region ?_
                  refine JL_q (wants_none rfl) rfl (ex_assign rfl) ?_
                  refine JL_nil ?_
                  refine N_then ?_
                  refine J_ret ?_
                  refine N_then_ret ?_
                  exact N_ret1 rfl (rv_tmp rfl) (fun w hh => ⟨(), rfl, hh.sel [] rfl⟩)
                · refine J_skip ?_
                  refine N_then ?_
                  refine J_seq ?_
                  refine J_region ?_
                  refine JL_q (wants_none rfl) rfl (ex_load_bx_agg 7 ti_30 rfl rfl rfl rfl) ?_
                  refine JL_bnd fun r73 hr74 => ?_
                  refine JL_call (wants_none rfl) rfl Try.call24 rfl (Ca_self (fun _ => rfl) fun w hh => c_laws_toMachine _ w (fun _ hk => hk.elim) _ _ (GMachine.rdmk (Rd.mk_int _ _ _) (Rd.mk_int _ _ _) (hh.rd0 4 rfl)) _ hr74) (fun x75 => ?_)
                  refine JL_q (wants_none rfl) rfl (ex_move rfl) ?_
                  refine JL_bnd fun r76 hr77 => ?_
                  refine JL_call (wants_none rfl) rfl Try.call25 rfl (Ca_self (fun _ => rfl) fun w hh => c_laws_toInt64S _ w (fun _ hk => hk.elim) _ _ (hh.rd0 4 rfl) _ hr77) (fun x78 => ?_)
                  refine JL_bnd fun r79 hr80 => ?_
                  refine JL_call (wants_none rfl) rfl Try.call26 rfl (Ca_self (fun _ => rfl) fun w hh => c_impl_ConfigOfRow _ w (fun _ hk => hk.elim) _ _ (GMachine.rdmk (Rd.mk_int _ _ _) (Rd.mk_int _ _ _) (hh.ow0 1 rfl)) _ _ (hh.ow0 0 rfl) _ hr80) (fun x81 => ?_)
                  obtain ⟨x81_0, x81_1, x81_2, x81_3⟩ := x81
                  refine JL_ctx (fun w hh => hh.tkn_rd 0 rfl) ?_
                  refine JL_ctx (fun w hh => hh.tkn_rd 2 rfl) ?_
                  refine JL_q (wants_none rfl) rfl (ex_move rfl) ?_
                  refine JL_q (wants_none rfl) rfl (ex_extract rfl rfl) ?_
                  refine JL_q (wants_none rfl) rfl (ex_extract rfl rfl) ?_
                  refine JL_q (wants_none rfl) rfl (ex_extract rfl rfl) ?_
                  refine JL_st (wants_none rfl) rfl (st_alloc zi_34 rfl) (fun b82 => ?_)
                  refine JL_sk (wants_none rfl) (sk_store_bx' 0 ti_34 rfl rfl (fun w hh => (cv_aggs ⟨cv_int, (hh.cv 2 rfl), (hh.cv 1 rfl), trivial⟩)) rfl rfl rfl rfl) ?_
                  refine JL_q (wants_none rfl) rfl (ex_assign rfl) ?_
                  refine JL_q (wants_none rfl) rfl (ex_assign rfl) ?_
                  refine JL_nil ?_
                  refine N_then ?_
                  refine J_seq ?_
                  refine J_seq ?_
                  refine J_region ?_
                  refine JL_q (wants_none rfl) rfl (ex_load_bx_agg 0 ti_34 rfl rfl rfl rfl) ?_
                  refine JL_q (wants_none rfl) rfl (ex_load_bx_agg 17 ti_34 rfl rfl rfl rfl) ?_
                  refine JL_bnd fun r83 hr84 => ?_
                  refine JL_call (wants_none rfl) rfl Try.call27 rfl (Ca_of0 fun w hh => c_laws_eqConfig _ w (fun _ hk => hk.elim) _ _ (GConfig.rdmk (Rd.mk_int _ _ _) (hh.rd0 2 rfl) (hh.rd0 1 rfl)) _ _ (GConfig.rdmk (Rd.mk_int _ _ _) (hh.ow0 15 rfl) (hh.ow0 16 rfl)) _ hr84) (fun _ => ?_)
                  refine JL_q (wants_none rfl) rfl (ex_not rfl) ?_
                  refine JL_q (wants_none rfl) rfl (ex_move rfl) ?_
                  refine JL_cond (fun h85 => ?_) (fun h85 => ?_)
                  · refine JL_passed rfl rfl rfl h85 ?_
                    refine JL_passed rfl rfl rfl h85 ?_
                    refine JL_passed rfl rfl rfl h85 ?_
                    refine JL_q (wants_none rfl) rfl (ex_pick_true rfl h85 rfl) ?_
                    refine JL_q (wants_none rfl) rfl (ex_move rfl) ?_
                    refine JL_passed rfl rfl rfl rfl ?_
                    refine JL_passed rfl rfl rfl rfl ?_
                    refine JL_passed rfl rfl rfl rfl ?_
                    refine JL_q (wants_none rfl) rfl (ex_pick_true rfl rfl rfl) ?_
                    refine JL_nil ?_
                    refine N_then ?_
                    refine J_if_true rfl rfl ?_
                    refine J_seq ?_
                    refine J_region ?_
                    refine JL_q (wants_none rfl) rfl (ex_assign rfl) ?_
                    refine JL_nil ?_
                    refine N_then ?_
                    refine J_ret ?_
                    refine N_then_ret ?_
                    exact N_ret1 rfl (rv_tmp rfl) (fun w hh => ⟨(), rfl, hh.sel [] rfl⟩)
                  · refine JL_q (wants_some rfl rfl rfl h85) rfl (ex_move rfl) ?_
                    refine JL_q (wants_some rfl rfl rfl h85) rfl (ex_move rfl) ?_
                    refine JL_q (wants_some rfl rfl rfl h85) rfl (ex_neq rfl rfl) ?_
                    refine JL_q (wants_none rfl) rfl (ex_pick_false rfl h85 rfl) ?_
                    refine JL_q (wants_none rfl) rfl (ex_move rfl) ?_
                    refine JL_cond (fun h86 => ?_) (fun h86 => ?_)
                    · refine JL_passed rfl rfl rfl h86 ?_
                      refine JL_passed rfl rfl rfl h86 ?_
                      refine JL_passed rfl rfl rfl h86 ?_
                      refine JL_q (wants_none rfl) rfl (ex_pick_true rfl h86 rfl) ?_
                      refine JL_nil ?_
                      refine N_then ?_
                      refine J_if_true rfl rfl ?_
                      refine J_seq ?_
                      refine J_region ?_
                      refine JL_q (wants_none rfl) rfl (ex_assign rfl) ?_
                      refine JL_nil ?_
                      refine N_then ?_
                      refine J_ret ?_
                      refine N_then_ret ?_
                      exact N_ret1 rfl (rv_tmp rfl) (fun w hh => ⟨(), rfl, hh.sel [] rfl⟩)
                    · refine JL_q (wants_some rfl rfl rfl h86) rfl (ex_move rfl) ?_
                      refine JL_q (wants_some rfl rfl rfl h86) rfl (ex_move rfl) ?_
                      refine JL_q (wants_some rfl rfl rfl h86) rfl (ex_neq rfl rfl) ?_
                      refine JL_q (wants_none rfl) rfl (ex_pick_false rfl h86 rfl) ?_
                      refine JL_nil ?_
                      refine N_then ?_
                      refine J_if rfl (fun h87 => ?_) (fun h87 => ?_)
                      · refine J_seq ?_
                        refine J_region ?_
                        refine JL_q (wants_none rfl) rfl (ex_assign rfl) ?_
                        refine JL_nil ?_
                        refine N_then ?_
                        refine J_ret ?_
                        refine N_then_ret ?_
                        exact N_ret1 rfl (rv_tmp rfl) (fun w hh => ⟨(), rfl, hh.sel [] rfl⟩)
                      · refine J_skip ?_
                        refine N_then ?_
                        refine J_seq ?_
                        refine J_region ?_
                        refine JL_q (wants_none rfl) rfl (ex_assign rfl) ?_
                        refine JL_nil ?_
                        refine N_then ?_
                        refine J_seq ?_
                        refine J_region ?_
                        refine JL_q (wants_none rfl) rfl (ex_load_bx_agg 18 ti_34 rfl rfl rfl rfl) ?_
                        refine JL_q (wants_none rfl) rfl (ex_move rfl) ?_
                        refine JL_bnd fun r88 hr89 => ?_
                        refine JL_call (wants_none rfl) rfl Try.call33 rfl (Ca_of0 fun w hh => c_laws_heldConfig _ w (fun _ hk => hk.elim) _ _ (GConfig.rdmk (Rd.mk_int _ _ _) (hh.rd0 7 rfl) (hh.rd0 8 rfl)) _ _ hr89) (fun _ => ?_)
                        refine JL_q (wants_none rfl) rfl (ex_assign rfl) ?_
                        refine JL_nil ?_
                        refine N_then ?_
                        refine J_seq ?_
                        refine J_seq ?_
                        refine J_region ?_
                        refine JL_q (wants_none rfl) rfl (ex_move rfl) ?_
                        refine JL_q (wants_none rfl) rfl (ex_lss rfl rfl) ?_
                        refine JL_nil ?_
                        refine N_then ?_
                        refine J_if rfl (fun h90 => ?_) (fun h90 => ?_)
                        · refine J_seq ?_
                          refine J_region ?_
                          refine JL_q (wants_none rfl) rfl (ex_assign rfl) ?_
                          refine JL_nil ?_
                          refine N_then ?_
                          refine J_ret ?_
                          refine N_then_ret ?_
                          exact N_ret1 rfl (rv_tmp rfl) (fun w hh => ⟨(), rfl, hh.sel [] rfl⟩)
                        · refine J_skip ?_
                          refine N_then ?_
                          refine J_seq ?_
                          refine J_seq ?_
                          refine J_region ?_
                          refine JL_q (wants_none rfl) rfl (ex_move rfl) ?_
                          refine JL_q (wants_none rfl) rfl (ex_move rfl) ?_
                          refine JL_q (wants_none rfl) rfl (ex_neq rfl rfl) ?_
                          refine JL_nil ?_
                          refine N_then ?_
                          refine J_if rfl (fun h91 => ?_) (fun h91 => ?_)
                          · refine J_seq ?_
                            refine J_region ?_
                            refine JL_q (wants_none rfl) rfl (ex_assign rfl) ?_
                            refine JL_nil ?_
                            refine N_then ?_
                            refine J_ret ?_
                            refine N_then_ret ?_
                            exact N_ret1 rfl (rv_tmp rfl) (fun w hh => ⟨(), rfl, hh.sel [] rfl⟩)
                          · refine J_skip ?_
                            refine N_then ?_
                            refine J_seq ?_
                            refine J_region ?_
                            refine JL_q (wants_none rfl) rfl (ex_assign rfl) ?_
                            refine JL_nil ?_
                            refine N_then ?_
                            refine J_ret ?_
                            exact N_ret1 rfl (rv_tmp rfl) (fun w hh => ⟨(), rfl, hh.sel [] rfl⟩)

end Go.Proofs.Ytfklpjdenigohaa
