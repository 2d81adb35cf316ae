/-
  Each function of the program computes what its plain function says: printed by program. No condition.
-/
import Derived.Test.YtlbbchonoomafaaFn
import Derived.Test.YtlbbchonoomafaaInf
import Derived.Test.YtlbbchonoomafaaCon1
import Derived.Test.YtlbbchonoomafaaCon4
import Derived.Test.YtlbbchonoomafaaCon5
namespace Go.Proofs.Ytlbbchonoomafaa
open Go Go.Tc Go.Fn
set_option linter.unusedVariables false

set_option maxHeartbeats 4000000 in
theorem c_impl_RunOfTiling (A : Nat → Prop) (w : World) (hA : ∀ k, A k → k < w.heap.size) (v0_ : Value) (p0 : GMachine) (hp0 : Rd A w v0_ p0) (v1_ : Value) (p1 : (List Int)) (hp1 : Rd A w v1_ p1) (v2_ : Value) (p2 : (List (List Int))) (hp2 : Rd A w v2_ p2) (r : (List GConfig) × Int) (hr : F_impl_RunOfTiling p0 p1 p2 = some r) :
    Con Try.prog 18 [v0_, v1_, v2_] A w (fun x_ : Value × List Nat => .tuple #[x_.1, .int .i64 r.2]) (fun x_ => [.od 66 x_.1 r.1 x_.2]) := by
  obtain ⟨v0_0, rfl, hp0_0⟩ := GMachine.open hp0
  refine Con_of (v := fun (r : (List GConfig) × Int) (x_ : Value × List Nat) => .tuple #[x_.1, .int .i64 r.2]) (fs := fun r x_ => [.od 66 x_.1 r.1 x_.2]) Try.func18 rfl Try.ntmps18 rfl ((((SH.start hA).start_rd rfl hp0_0).start_rd rfl hp1).start_rd rfl hp2) rfl ?_ hr
  unfold F_impl_RunOfTiling
  refine J_seq ?_
  refine J_region ?_
  refine JL_st (wants_none rfl) rfl (st_box' rfl (fun w hh => (cv_aggs ⟨cv_int, cv_int, (hh.cv 2 rfl), trivial⟩))) (fun b1 => ?_)
  refine JL_q (wants_none rfl) rfl (ex_assign rfl) ?_
  refine JL_q (wants_none rfl) rfl (ex_assign rfl) ?_
  refine JL_nil ?_
  refine N_then ?_
  refine J_seq ?_
  refine J_seq ?_
  refine J_region ?_
  refine JL_q (wants_none rfl) rfl (ex_load_bx_agg 0 ti_41 rfl rfl rfl rfl) ?_
  refine JL_bnd fun r2 hr3 => ?_
  refine JL_call (wants_none rfl) rfl Try.call43 rfl (Ca_of0 fun w hh => c_impl_ValidMachine _ w (fun _ hk => hk.elim) _ _ (GMachine.rdmk (Rd.mk_int _ _ _) (Rd.mk_int _ _ _) (hh.rd0 3 rfl)) _ hr3) (fun _ => ?_)
  refine JL_q (wants_none rfl) rfl (ex_not rfl) ?_
  refine JL_nil ?_
  refine N_then ?_
  refine J_if rfl (fun h4 => ?_) (fun h4 => ?_)
  · refine J_seq ?_
    refine J_region ?_
    refine JL_q (wants_none rfl) rfl (ex_assign rfl) ?_
    refine JL_q (wants_none rfl) rfl (ex_assign rfl) ?_
    refine JL_nil ?_
    refine N_then ?_
    refine J_ret ?_
    refine N_then_ret ?_
    refine N_ctx (fun w hh => SH.od_nil (α := GConfig) 66 hh) ?_
    exact N_ret2 rfl (rv_tmp rfl) (rv_tmp rfl) (fun w hh => ⟨((.slice none 0 0 : Value), ([] : List Nat)), rfl, hh.sel [0] rfl⟩)
  · refine J_skip ?_
    refine N_then ?_
    refine J_seq ?_
    refine J_region ?_
    refine JL_q (wants_none rfl) rfl (ex_load_bx_agg 0 ti_41 rfl rfl rfl rfl) ?_
    refine JL_bnd fun r5 hr6 => ?_
    refine JL_call (wants_none rfl) rfl Try.call44 rfl (Ca_self (fun _ => rfl) fun w hh => c_impl_tilesOfMachine _ w (fun _ hk => hk.elim) _ _ (GMachine.rdmk (Rd.mk_int _ _ _) (Rd.mk_int _ _ _) (hh.rd0 3 rfl)) _ hr6) (fun x7 => ?_)
    refine JL_q (wants_none rfl) rfl (ex_move rfl) ?_
    refine JL_q (wants_none rfl) rfl (ex_extract rfl rfl) ?_
    refine JL_q (wants_none rfl) rfl (ex_extract rfl rfl) ?_
    refine JL_q (wants_none rfl) rfl (ex_assign rfl) ?_
    refine JL_q (wants_none rfl) rfl (ex_assign rfl) ?_
    refine JL_nil ?_
    refine N_then ?_
    refine J_seq ?_
    refine J_seq ?_
    refine J_region ?_
    refine JL_q (wants_none rfl) rfl (ex_move rfl) ?_
    refine JL_q (wants_none rfl) rfl (ex_neq rfl rfl) ?_
    refine JL_nil ?_
    refine N_then ?_
    refine J_if rfl (fun h8 => ?_) (fun h8 => ?_)
    · refine J_seq ?_
      refine J_region ?_
      refine JL_q (wants_none rfl) rfl (ex_move rfl) ?_
      refine JL_q (wants_none rfl) rfl (ex_assign rfl) ?_
      refine JL_q (wants_none rfl) rfl (ex_assign rfl) ?_
      refine JL_nil ?_
      refine N_then ?_
      refine J_ret ?_
      refine N_then_ret ?_
      refine N_ctx (fun w hh => SH.od_nil (α := GConfig) 66 hh) ?_
      exact N_ret2 rfl (rv_tmp rfl) (rv_tmp rfl) (fun w hh => ⟨((.slice none 0 0 : Value), ([] : List Nat)), rfl, hh.sel [0] rfl⟩)
    · refine J_skip ?_
      refine N_then ?_
      refine J_seq ?_
      refine J_region ?_
      refine JL_q (wants_none rfl) rfl (ex_load_bx_agg 1 ti_41 rfl rfl rfl rfl) ?_
      refine JL_q (wants_none rfl) rfl (ex_move rfl) ?_
      refine JL_bnd fun r9 hr10 => ?_
      refine JL_call (wants_none rfl) rfl Try.call45 rfl (Ca_self (fun _ => rfl) fun w hh => c_impl_ConfigOfRow _ w (fun _ hk => hk.elim) _ _ (GMachine.rdmk (Rd.mk_int _ _ _) (Rd.mk_int _ _ _) (hh.rd0 4 rfl)) _ _ (hh.rd0 3 rfl) _ hr10) (fun x11 => ?_)
      obtain ⟨x11_0, x11_1, x11_2, x11_3⟩ := x11
      refine JL_ctx (fun w hh => hh.tkn_rd 0 rfl) ?_
      refine JL_ctx (fun w hh => hh.tkn_rd 2 rfl) ?_
      refine JL_q (wants_none rfl) rfl (ex_move rfl) ?_
      refine JL_q (wants_none rfl) rfl (ex_extract rfl rfl) ?_
      refine JL_q (wants_none rfl) rfl (ex_extract rfl rfl) ?_
      refine JL_q (wants_none rfl) rfl (ex_extract rfl rfl) ?_
      refine JL_st (wants_none rfl) rfl (st_alloc zi_66 rfl) (fun b12 => ?_)
      refine JL_sk (wants_none rfl) (sk_store_bx' 0 ti_66 rfl rfl (fun w hh => (cv_aggs ⟨cv_int, (hh.cv 2 rfl), (hh.cv 1 rfl), trivial⟩)) rfl rfl rfl rfl) ?_
      refine JL_q (wants_none rfl) rfl (ex_assign rfl) ?_
      refine JL_q (wants_none rfl) rfl (ex_assign rfl) ?_
      refine JL_nil ?_
      refine N_then ?_
      refine J_seq ?_
      refine J_seq ?_
      refine J_region ?_
      refine JL_q (wants_none rfl) rfl (ex_move rfl) ?_
      refine JL_q (wants_none rfl) rfl (ex_neq rfl rfl) ?_
      refine JL_nil ?_
      refine N_then ?_
      refine J_if rfl (fun h13 => ?_) (fun h13 => ?_)
      · refine J_seq ?_
        refine J_region ?_
        refine JL_q (wants_none rfl) rfl (ex_move rfl) ?_
        refine JL_q (wants_none rfl) rfl (ex_assign rfl) ?_
        refine JL_q (wants_none rfl) rfl (ex_assign rfl) ?_
        refine JL_nil ?_
        refine N_then ?_
        refine J_ret ?_
        refine N_then_ret ?_
        refine N_ctx (fun w hh => SH.od_nil (α := GConfig) 66 hh) ?_
        exact N_ret2 rfl (rv_tmp rfl) (rv_tmp rfl) (fun w hh => ⟨((.slice none 0 0 : Value), ([] : List Nat)), rfl, hh.sel [0] rfl⟩)
      · refine J_skip ?_
        refine N_then ?_
        refine J_seq ?_
        refine J_region ?_
        refine JL_q (wants_none rfl) rfl (ex_move rfl) ?_
        refine JL_q (wants_none rfl) rfl (ex_move rfl) ?_
        refine JL_q (wants_none rfl) rfl (ex_move rfl) ?_
        refine JL_bnd fun r14 hr15 => ?_
        refine JL_call (wants_none rfl) rfl Try.call46 rfl (Ca_self (fun _ => rfl) fun w hh => c_impl_topsOf _ w (fun _ hk => hk.elim) _ _ (hh.ow0 5 rfl) _ _ (hh.rd0 8 rfl) _ _ (hh.rd0 7 rfl) _ hr15) (fun x16 => ?_)
        obtain ⟨x16_0, x16_1⟩ := x16
        refine JL_q (wants_none rfl) rfl (ex_move rfl) ?_
        refine JL_q (wants_none rfl) rfl (ex_extract rfl rfl) ?_
        refine JL_q (wants_none rfl) rfl (ex_extract rfl rfl) ?_
        refine JL_q (wants_none rfl) rfl (ex_assign rfl) ?_
        refine JL_q (wants_none rfl) rfl (ex_assign rfl) ?_
        refine JL_nil ?_
        refine N_then ?_
        refine J_seq ?_
        refine J_seq ?_
        refine J_region ?_
        refine JL_q (wants_none rfl) rfl (ex_move rfl) ?_
        refine JL_q (wants_none rfl) rfl (ex_not rfl) ?_
        refine JL_nil ?_
        refine N_then ?_
        refine J_if rfl (fun h17 => ?_) (fun h17 => ?_)
        · refine J_seq ?_
          refine J_region ?_
          refine JL_q (wants_none rfl) rfl (ex_assign rfl) ?_
          refine JL_q (wants_none rfl) rfl (ex_assign rfl) ?_
          refine JL_nil ?_
          refine N_then ?_
          refine J_ret ?_
          refine N_then_ret ?_
          refine N_ctx (fun w hh => SH.od_nil (α := GConfig) 66 hh) ?_
          exact N_ret2 rfl (rv_tmp rfl) (rv_tmp rfl) (fun w hh => ⟨((.slice none 0 0 : Value), ([] : List Nat)), rfl, hh.sel [0] rfl⟩)
        · refine J_skip ?_
          refine N_then ?_
          refine J_seq ?_
          refine J_region ?_
          refine JL_q (wants_none rfl) rfl (ex_load_bx_agg 1 ti_66 rfl rfl rfl rfl) ?_
          refine JL_st (wants_none rfl) rfl (st_buildSlice_od (vs := [.agg #[.int .i64 r9.1.State, x11_0, x11_2]]) (B := (x11_1 ++ (x11_3 ++ []))) ([r9.1] : List GConfig) [4, 5] Try.underlying36 ti_66 zi_66 rfl rfl rfl rfl rfl (fun w hh => (dwv_cons (GConfig.dw (hh.dw 4 rfl) (hh.dw 5 rfl)) dwv_nil))) (fun b18 => ?_)
          refine JL_q (wants_none rfl) rfl (ex_assign rfl) ?_
          refine JL_nil ?_
          refine N_then ?_
          refine J_seq ?_
          refine J_seq ?_
          refine J_region ?_
          refine JL_q (wants_none rfl) rfl (ex_move rfl) ?_
          refine JL_q (wants_none rfl) rfl (ex_od 1 rfl (ex_len_ow 1 Try.underlying22 rfl rfl)) ?_
          refine JL_q (wants_none rfl) rfl (ex_move rfl) ?_
          refine JL_nil ?_
          refine N_then ?_
          refine J_loop' (S := (List GConfig) × Int) (G := Value × List Nat) (F_impl_RunOfTiling_L1 p0 r14) (fun s19 g20 => [(3, .pointer (some ⟨b1, 0, none⟩)), (14, g20.1), (52, x16_0), (53, .int .i64 (r14.1.length : Int)), (54, .int .i64 s19.2)]) (fun s19 g20 => [.rd v0_0 p0.Rules, .bx b1 41 [.int .i64 p0.Symbols, .int .i64 p0.States, v0_0], .od 66 g20.1 s19.1 g20.2, .od 24 x16_0 r14.1 x16_1]) (([r9.1] : List GConfig), 0) ((.slice (some ⟨b18, 0, none⟩) 1 1), (x11_1 ++ (x11_3 ++ []))) ⟨rfl, rfl, rfl, rfl, rfl, trivial⟩ [11, 8, 0, 1] rfl rfl (fun s19 g20 => ?_) (fun s19 g20 => ?_)
          · obtain ⟨g20_0, g20_1⟩ := g20
            unfold F_impl_RunOfTiling_L1
            refine J_seq ?_
            refine J_region ?_
            refine JL_q (wants_none rfl) rfl (ex_lss rfl rfl) ?_
            refine JL_nil ?_
            refine N_then ?_
            refine J_seq ?_
            refine J_if rfl (fun h21 => ?_) (fun h21 => ?_)
            · refine J_skip ?_
              refine N_then ?_
              refine J_seq ?_
              refine J_block ?_
              refine J_seq ?_
              refine J_region ?_
              refine JL_bnd fun y22 hy23 => ?_
              refine JL_od_open (v := x16_0) 3 rfl hy23 ?_; rintro b24 cap25 rfl
              refine JL_q (wants_none rfl) rfl (ex_od 3 rfl (ex_index_ow 3 Try.underlying22 ti_24 rfl rfl rfl hy23)) ?_
              refine JL_st (wants_none rfl) rfl (st_od 3 rfl (st_load_ow_o 3 (opens_sl _) ti_24 rfl rfl hy23) (fun _ => rfl)) (fun v26 => ?_)
              refine JL_q (wants_none rfl) rfl (ex_assign rfl) ?_
              refine JL_nil ?_
              refine N_then ?_
              refine J_seq ?_
              refine J_region ?_
              refine JL_q (wants_none rfl) rfl (ex_load_bx_agg 2 ti_41 rfl rfl rfl rfl) ?_
              refine JL_q (wants_none rfl) rfl (ex_move rfl) ?_
              refine JL_bnd fun r27 hr28 => ?_
              refine JL_call (wants_none rfl) rfl Try.call47 rfl (Ca_self (fun _ => rfl) fun w hh => c_impl_configOfRow _ w (fun _ hk => hk.elim) _ _ (GMachine.rdmk (Rd.mk_int _ _ _) (Rd.mk_int _ _ _) (hh.rd0 1 rfl)) _ _ (hh.rd0 0 rfl) _ hr28) (fun x29 => ?_)
              obtain ⟨x29_0, x29_1, x29_2, x29_3⟩ := x29
              refine JL_ctx (fun w hh => hh.tkn_rd 0 rfl) ?_
              refine JL_ctx (fun w hh => hh.tkn_rd 2 rfl) ?_
              refine JL_q (wants_none rfl) rfl (ex_move rfl) ?_
              refine JL_q (wants_none rfl) rfl (ex_extract rfl rfl) ?_
              refine JL_q (wants_none rfl) rfl (ex_extract rfl rfl) ?_
              refine JL_q (wants_none rfl) rfl (ex_extract rfl rfl) ?_
              refine JL_st (wants_none rfl) rfl (st_alloc zi_66 rfl) (fun b30 => ?_)
              refine JL_sk (wants_none rfl) (sk_store_bx' 0 ti_66 rfl rfl (fun w hh => (cv_aggs ⟨cv_int, (hh.cv 2 rfl), (hh.cv 1 rfl), trivial⟩)) rfl rfl rfl rfl) ?_
              refine JL_q (wants_none rfl) rfl (ex_assign rfl) ?_
              refine JL_q (wants_none rfl) rfl (ex_assign rfl) ?_
              refine JL_nil ?_
              refine N_then ?_
              refine J_seq ?_
              refine J_seq ?_
              refine J_region ?_
              refine JL_q (wants_none rfl) rfl (ex_move rfl) ?_
              refine JL_q (wants_none rfl) rfl (ex_neq rfl rfl) ?_
              refine JL_nil ?_
              refine N_then ?_
              refine J_if rfl (fun h31 => ?_) (fun h31 => ?_)
              · refine J_seq ?_
                refine J_region ?_
                refine JL_q (wants_none rfl) rfl (ex_assign rfl) ?_
                refine JL_q (wants_none rfl) rfl (ex_assign rfl) ?_
                refine JL_nil ?_
                refine N_then ?_
                refine J_ret ?_
                refine N_then_ret ?_
                refine N_block_ret ?_
                refine N_then_ret ?_
                refine N_round_ret ?_
                refine N_then_ret ?_
                refine N_ctx (fun w hh => SH.od_nil (α := GConfig) 66 hh) ?_
                exact N_ret2 rfl (rv_tmp rfl) (rv_tmp rfl) (fun w hh => ⟨((.slice none 0 0 : Value), ([] : List Nat)), rfl, hh.sel [0] rfl⟩)
              · refine J_skip ?_
                refine N_then ?_
                refine J_region ?_
                refine JL_q (wants_none rfl) rfl (ex_move rfl) ?_
                refine JL_q (wants_none rfl) rfl (ex_load_bx_agg 0 ti_66 rfl rfl rfl rfl) ?_
                refine JL_st (wants_none rfl) rfl (st_buildSlice_od (vs := [.agg #[.int .i64 r27.1.State, x29_0, x29_2]]) (B := (x29_1 ++ (x29_3 ++ []))) ([r27.1] : List GConfig) [3, 4] Try.underlying36 ti_66 zi_66 rfl rfl rfl rfl rfl (fun w hh => (dwv_cons (GConfig.dw (hh.dw 3 rfl) (hh.dw 4 rfl)) dwv_nil))) (fun b32 => ?_)
                refine JL_bnd fun z33 hz34 => ?_
                refine JL_st (wants_none rfl) rfl (st_append_od 9 0 Try.underlying36 ti_66 zi_66 rfl bi_66 rfl rfl rfl rfl rfl rfl hz34) (fun v35 => ?_)
                refine JL_q (wants_none rfl) rfl (ex_assign rfl) ?_
                refine JL_nil ?_
                refine N_block ?_
                refine N_then ?_
                refine J_region ?_
                refine JL_q (wants_none rfl) rfl (ex_add rfl rfl) ?_
                refine JL_q (wants_none rfl) rfl (ex_move rfl) ?_
                refine JL_nil ?_
                exact N_next' (v35, (g20_1 ++ (x29_1 ++ (x29_3 ++ [])))) ⟨rfl, rfl, rfl, rfl, rfl, trivial⟩ [7, 8, 9, 10] rfl rfl
            · refine J_exit ?_
              refine N_then_exit ?_
              exact N_break' (g20_0, g20_1) ⟨rfl, rfl, rfl, rfl, rfl, trivial⟩ [0, 1, 2, 3] rfl rfl
          · obtain ⟨g20_0, g20_1⟩ := g20
            refine N_then ?_
            refine J_seq ?_
            refine J_region ?_
            refine JL_q (wants_none rfl) rfl (ex_move rfl) ?_
            refine JL_q (wants_none rfl) rfl (ex_assign rfl) ?_
            refine JL_q (wants_none rfl) rfl (ex_assign rfl) ?_
            refine JL_nil ?_
            refine N_then ?_
            refine J_ret ?_
            exact N_ret2 rfl (rv_tmp rfl) (rv_tmp rfl) (fun w hh => ⟨(g20_0, g20_1), rfl, hh.sel [2] rfl⟩)

set_option maxHeartbeats 4000000 in
theorem c_laws_eqConfig (A : Nat → Prop) (w : World) (hA : ∀ k, A k → k < w.heap.size) (v0_ : Value) (p0 : GConfig) (hp0 : Rd A w v0_ p0) (v1_ : Value) (p1 : GConfig) (hp1 : Rd A w v1_ p1) (r : Bool) (hr : F_laws_eqConfig p0 p1 = some r) :
    Con Try.prog 48 [v0_, v1_] A w (fun x_ : Unit => .bool r) (fun x_ => []) := by
  obtain ⟨v0_0, v0_1, rfl, hp0_0, hp0_1⟩ := GConfig.open hp0
  obtain ⟨v1_0, v1_1, rfl, hp1_0, hp1_1⟩ := GConfig.open hp1
  refine Con_of (v := fun (r : Bool) (x_ : Unit) => .bool r) (fs := fun r x_ => []) Try.func48 rfl Try.ntmps48 rfl (((((SH.start hA).start_rd rfl hp0_0).start_rd rfl hp0_1).start_rd rfl hp1_0).start_rd rfl hp1_1) rfl ?_ hr
  unfold F_laws_eqConfig
  refine J_seq ?_
  refine J_region ?_
  refine JL_st (wants_none rfl) rfl (st_box' rfl (fun w hh => (cv_aggs ⟨cv_int, (hh.cv 3 rfl), (hh.cv 2 rfl), trivial⟩))) (fun b1 => ?_)
  refine JL_st (wants_none rfl) rfl (st_box' rfl (fun w hh => (cv_aggs ⟨cv_int, (hh.cv 2 rfl), (hh.cv 1 rfl), trivial⟩))) (fun b2 => ?_)
  refine JL_q (wants_none rfl) rfl (ex_assign rfl) ?_
  refine JL_nil ?_
  refine N_then ?_
  refine J_seq ?_
  refine J_seq ?_
  refine J_region ?_
  refine JL_q (wants_none rfl) rfl (ex_fieldAddr fi_66_0 rfl rfl) ?_
  refine JL_q (wants_none rfl) rfl (ex_load_bx 1 ti_2 rfl rfl rfl) ?_
  refine JL_q (wants_none rfl) rfl (ex_fieldAddr fi_66_0 rfl rfl) ?_
  refine JL_q (wants_none rfl) rfl (ex_load_bx 0 ti_2 rfl rfl rfl) ?_
  refine JL_q (wants_none rfl) rfl (ex_neq rfl rfl) ?_
  refine JL_nil ?_
  refine N_then ?_
  refine J_if rfl (fun h3 => ?_) (fun h3 => ?_)
  · refine J_seq ?_
    refine J_region ?_
    refine JL_q (wants_none rfl) rfl (ex_assign rfl) ?_
    refine JL_nil ?_
    refine N_then ?_
    refine J_ret ?_
    refine N_then_ret ?_
    exact N_ret1 rfl (rv_tmp rfl) (fun w hh => ⟨(), rfl, hh.sel [] rfl⟩)
  · refine J_skip ?_
    refine N_then ?_
    refine J_seq ?_
    refine J_seq ?_
    refine J_region ?_
    refine JL_q (wants_none rfl) rfl (ex_fieldAddr fi_66_1 rfl rfl) ?_
    refine JL_q (wants_none rfl) rfl (ex_load_bx 1 ti_24 rfl rfl rfl) ?_
    refine JL_q (wants_none rfl) rfl (ex_fieldAddr fi_66_1 rfl rfl) ?_
    refine JL_q (wants_none rfl) rfl (ex_load_bx 0 ti_24 rfl rfl rfl) ?_
    refine JL_bnd fun r4 hr5 => ?_
    refine JL_call (wants_none rfl) rfl Try.call9 rfl (Ca_of0 fun w hh => c_laws_eqInt64S _ w (fun _ hk => hk.elim) _ _ (hh.rd0 5 rfl) _ _ (hh.rd0 3 rfl) _ hr5) (fun _ => ?_)
    refine JL_q (wants_none rfl) rfl (ex_not rfl) ?_
    refine JL_nil ?_
    refine N_then ?_
    refine J_if rfl (fun h6 => ?_) (fun h6 => ?_)
    · refine J_seq ?_
      refine J_region ?_
      refine JL_q (wants_none rfl) rfl (ex_assign rfl) ?_
      refine JL_nil ?_
      refine N_then ?_
      refine J_ret ?_
      refine N_then_ret ?_
      exact N_ret1 rfl (rv_tmp rfl) (fun w hh => ⟨(), rfl, hh.sel [] rfl⟩)
    · refine J_skip ?_
      refine N_then ?_
      refine J_seq ?_
      refine J_seq ?_
      refine J_region ?_
      refine JL_q (wants_none rfl) rfl (ex_fieldAddr fi_66_2 rfl rfl) ?_
      refine JL_q (wants_none rfl) rfl (ex_load_bx 1 ti_24 rfl rfl rfl) ?_
      refine JL_q (wants_none rfl) rfl (ex_fieldAddr fi_66_2 rfl rfl) ?_
      refine JL_q (wants_none rfl) rfl (ex_load_bx 0 ti_24 rfl rfl rfl) ?_
      refine JL_bnd fun r7 hr8 => ?_
      refine JL_call (wants_none rfl) rfl Try.call9 rfl (Ca_of0 fun w hh => c_laws_eqInt64S _ w (fun _ hk => hk.elim) _ _ (hh.rd0 4 rfl) _ _ (hh.rd0 2 rfl) _ hr8) (fun _ => ?_)
      refine JL_q (wants_none rfl) rfl (ex_not rfl) ?_
      refine JL_nil ?_
      refine N_then ?_
      refine J_if rfl (fun h9 => ?_) (fun h9 => ?_)
      · refine J_seq ?_
        refine J_region ?_
        refine JL_q (wants_none rfl) rfl (ex_assign rfl) ?_
        refine JL_nil ?_
        refine N_then ?_
        refine J_ret ?_
        refine N_then_ret ?_
        exact N_ret1 rfl (rv_tmp rfl) (fun w hh => ⟨(), rfl, hh.sel [] rfl⟩)
      · refine J_skip ?_
        refine N_then ?_
        refine J_seq ?_
        refine J_region ?_
        refine JL_q (wants_none rfl) rfl (ex_assign rfl) ?_
        refine JL_nil ?_
        refine N_then ?_
        refine J_ret ?_
        exact N_ret1 rfl (rv_tmp rfl) (fun w hh => ⟨(), rfl, hh.sel [] rfl⟩)

set_option maxHeartbeats 4000000 in
theorem c_laws_eqConfigS (A : Nat → Prop) (w : World) (hA : ∀ k, A k → k < w.heap.size) (v0_ : Value) (p0 : (List GConfig)) (hp0 : Rd A w v0_ p0) (v1_ : Value) (p1 : (List GConfig)) (hp1 : Rd A w v1_ p1) (r : Bool) (hr : F_laws_eqConfigS p0 p1 = some r) :
    Con Try.prog 19 [v0_, v1_] A w (fun x_ : Unit => .bool r) (fun x_ => []) := by
  refine Con_of (v := fun (r : Bool) (x_ : Unit) => .bool r) (fs := fun r x_ => []) Try.func19 rfl Try.ntmps19 rfl (((SH.start hA).start_rd rfl hp0).start_rd rfl hp1) rfl ?_ hr
  unfold F_laws_eqConfigS
  refine J_seq ?_
  refine J_region ?_
  refine JL_q (wants_none rfl) rfl (ex_assign rfl) ?_
  refine JL_nil ?_
  refine N_then ?_
  refine J_seq ?_
  refine J_seq ?_
  refine J_region ?_
  refine JL_q (wants_none rfl) rfl (ex_move rfl) ?_
  refine JL_q (wants_none rfl) rfl (ex_len_rd 1 Try.underlying36 rfl rfl) ?_
  refine JL_q (wants_none rfl) rfl (ex_move rfl) ?_
  refine JL_q (wants_none rfl) rfl (ex_len_rd 0 Try.underlying36 rfl rfl) ?_
  refine JL_q (wants_none rfl) rfl (ex_neq rfl rfl) ?_
  refine JL_nil ?_
  refine N_then ?_
  refine J_if rfl (fun h1 => ?_) (fun h1 => ?_)
  · refine J_seq ?_
    refine J_region ?_
    refine JL_q (wants_none rfl) rfl (ex_assign rfl) ?_
    refine JL_nil ?_
    refine N_then ?_
    refine J_ret ?_
    refine N_then_ret ?_
    exact N_ret1 rfl (rv_tmp rfl) (fun w hh => ⟨(), rfl, hh.sel [] rfl⟩)
  · refine J_skip ?_
    refine N_then ?_
    refine J_seq ?_
    refine J_seq ?_
    refine J_region ?_
    refine JL_q (wants_none rfl) rfl (ex_assign rfl) ?_
    refine JL_nil ?_
    refine N_then ?_
    refine J_loop' (S := Int) (G := Unit) (F_laws_eqConfigS_L1 p0 p1) (fun s2 _ => [(0, v0_), (1, v1_), (5, .int .i64 s2)]) (fun s2 _ => [.rd v0_ p0, .rd v1_ p1]) 0 () ⟨rfl, rfl, rfl, trivial⟩ [1, 0] rfl rfl (fun s2 g3 => ?_) (fun s2 g3 => ?_)
    · unfold F_laws_eqConfigS_L1
      refine J_seq ?_
      refine J_seq ?_
      refine J_region ?_
      refine JL_q (wants_none rfl) rfl (ex_move rfl) ?_
      refine JL_q (wants_none rfl) rfl (ex_move rfl) ?_
      refine JL_q (wants_none rfl) rfl (ex_len_rd 0 Try.underlying36 rfl rfl) ?_
      refine JL_q (wants_none rfl) rfl (ex_lss rfl rfl) ?_
      refine JL_nil ?_
      refine N_then ?_
      refine J_if rfl (fun h4 => ?_) (fun h4 => ?_)
      · refine J_skip ?_
        refine N_then ?_
        refine J_seq ?_
        refine J_block ?_
        refine J_seq ?_
        refine J_draw [] (by kernel_rfl) ?_
        refine JP_take (i := 0) [0, 1] [] rfl (by kernel_rfl) (by kernel_rfl) (by kernel_rfl) rfl rfl (wants_none rfl) rfl (ex_move rfl) ?_
        refine JP_take (i := 1) [0, 1] [] rfl (by kernel_rfl) (by kernel_rfl) (by kernel_rfl) rfl rfl (wants_none rfl) rfl (ex_move rfl) ?_
        refine JP_bnd fun y5 hy6 => ?_
        refine JP_sq (i := 2) [] rfl (by kernel_rfl) (by kernel_rfl) (by kernel_rfl) rfl (wants_none rfl) rfl (sq_index 0 Try.underlying36 ti_66 rfl rfl rfl hy6) (fun q7 => ?_)
        refine JP_sq (i := 3) [] rfl (by kernel_rfl) (by kernel_rfl) (by kernel_rfl) rfl (wants_none rfl) rfl (sq_load_pt_o 0 (GConfig.opens _) ti_66 rfl rfl) (fun v8 => ?_)
        refine JP_take (i := 4) [0, 1, 2, 3, 4] [] rfl (by kernel_rfl) (by kernel_rfl) (by kernel_rfl) rfl rfl (wants_none rfl) rfl (ex_move rfl) ?_
        refine JP_take (i := 5) [0, 1, 2, 3, 4] [] rfl (by kernel_rfl) (by kernel_rfl) (by kernel_rfl) rfl rfl (wants_none rfl) rfl (ex_move rfl) ?_
        refine JP_bnd fun y9 hy10 => ?_
        refine JP_sq (i := 6) [] rfl (by kernel_rfl) (by kernel_rfl) (by kernel_rfl) rfl (wants_none rfl) rfl (sq_index 4 Try.underlying36 ti_66 rfl rfl rfl hy10) (fun q11 => ?_)
        refine JP_sq (i := 7) [] rfl (by kernel_rfl) (by kernel_rfl) (by kernel_rfl) rfl (wants_none rfl) rfl (sq_load_pt_o 0 (GConfig.opens _) ti_66 rfl rfl) (fun v12 => ?_)
        refine JP_go [0, 1, 2, 3, 4, 5, 6, 7] [] rfl rfl rfl (fun w14 h1_15 hp13 => ?_)
        refine JD_bnd fun r16 hr17 => ?_
        refine JD_one (i := 8) (by kernel_rfl) ?_
        refine JO_call rfl (wants_none rfl) rfl Try.call48 rfl (Ca_of0 fun w hh => c_laws_eqConfig _ w (fun _ hk => hk.elim) _ _ (GConfig.rdmk (Rd.mk_int _ _ _) (hh.rd0 3 rfl) (hh.rd0 4 rfl)) _ _ (GConfig.rdmk (Rd.mk_int _ _ _) (hh.rd0 0 rfl) (hh.rd0 1 rfl)) _ hr17) (fun _ => ?_)
        refine JD_take (i := 9) hp13 rfl (by kernel_rfl) (by kernel_rfl) (by kernel_rfl) (wants_none rfl) rfl (ex_not rfl) ?_
        refine JD_done (by kernel_rfl) ?_
        refine N_then ?_
        refine J_if rfl (fun h18 => ?_) (fun h18 => ?_)
        · refine J_seq ?_
          refine J_region ?_
          refine JL_q (wants_none rfl) rfl (ex_assign rfl) ?_
          refine JL_nil ?_
          refine N_then ?_
          refine J_ret ?_
          refine N_block_ret ?_
          refine N_then_ret ?_
          refine N_round_ret ?_
          refine N_then_ret ?_
          exact N_ret1 rfl (rv_tmp rfl) (fun w hh => ⟨(), rfl, hh.sel [] rfl⟩)
        · refine J_skip ?_
          refine N_block ?_
          refine N_then ?_
          refine J_region ?_
          refine JL_q (wants_none rfl) rfl (ex_move rfl) ?_
          refine JL_q (wants_none rfl) rfl (ex_add rfl rfl) ?_
          refine JL_q (wants_none rfl) rfl (ex_assign rfl) ?_
          refine JL_nil ?_
          exact N_next' () ⟨rfl, rfl, rfl, trivial⟩ [6, 7] rfl rfl
      · refine J_exit ?_
        refine N_then_exit ?_
        exact N_break' () ⟨rfl, rfl, rfl, trivial⟩ [0, 1] rfl rfl
    · refine N_then ?_
      refine J_seq ?_
      refine J_region ?_
      refine JL_q (wants_none rfl) rfl (ex_assign rfl) ?_
      refine JL_nil ?_
      refine N_then ?_
      refine J_ret ?_
      exact N_ret1 rfl (rv_tmp rfl) (fun w hh => ⟨(), rfl, hh.sel [] rfl⟩)

set_option maxHeartbeats 4000000 in
theorem c_laws_eqRule (A : Nat → Prop) (w : World) (hA : ∀ k, A k → k < w.heap.size) (v0_ : Value) (p0 : GRule) (hp0 : Rd A w v0_ p0) (v1_ : Value) (p1 : GRule) (hp1 : Rd A w v1_ p1) (r : Bool) (hr : F_laws_eqRule p0 p1 = some r) :
    Con Try.prog 93 [v0_, v1_] A w (fun x_ : Unit => .bool r) (fun x_ => []) := by
  obtain rfl := GRule.open hp0
  obtain rfl := GRule.open hp1
  refine Con_of (v := fun (r : Bool) (x_ : Unit) => .bool r) (fs := fun r x_ => []) Try.func93 rfl Try.ntmps93 rfl (SH.start hA) rfl ?_ hr
  unfold F_laws_eqRule
  refine J_seq ?_
  refine J_region ?_
  refine JL_st (wants_none rfl) rfl (st_box' rfl (fun w hh => (cv_aggs ⟨cv_int, cv_int, cv_int, trivial⟩))) (fun b1 => ?_)
  refine JL_st (wants_none rfl) rfl (st_box' rfl (fun w hh => (cv_aggs ⟨cv_int, cv_int, cv_int, trivial⟩))) (fun b2 => ?_)
  refine JL_q (wants_none rfl) rfl (ex_assign rfl) ?_
  refine JL_nil ?_
  refine N_then ?_
  refine J_seq ?_
  refine J_seq ?_
  refine J_region ?_
  refine JL_q (wants_none rfl) rfl (ex_fieldAddr fi_95_0 rfl rfl) ?_
  refine JL_q (wants_none rfl) rfl (ex_load_bx 1 ti_2 rfl rfl rfl) ?_
  refine JL_q (wants_none rfl) rfl (ex_fieldAddr fi_95_0 rfl rfl) ?_
  refine JL_q (wants_none rfl) rfl (ex_load_bx 0 ti_2 rfl rfl rfl) ?_
  refine JL_q (wants_none rfl) rfl (ex_neq rfl rfl) ?_
  refine JL_nil ?_
  refine N_then ?_
  refine J_if rfl (fun h3 => ?_) (fun h3 => ?_)
  · refine J_seq ?_
    refine J_region ?_
    refine JL_q (wants_none rfl) rfl (ex_assign rfl) ?_
    refine JL_nil ?_
    refine N_then ?_
    refine J_ret ?_
    refine N_then_ret ?_
    exact N_ret1 rfl (rv_tmp rfl) (fun w hh => ⟨(), rfl, hh.sel [] rfl⟩)
  · refine J_skip ?_
    refine N_then ?_
    refine J_seq ?_
    refine J_seq ?_
    refine J_region ?_
    refine JL_q (wants_none rfl) rfl (ex_fieldAddr fi_95_1 rfl rfl) ?_
    refine JL_q (wants_none rfl) rfl (ex_load_bx 1 ti_2 rfl rfl rfl) ?_
    refine JL_q (wants_none rfl) rfl (ex_fieldAddr fi_95_1 rfl rfl) ?_
    refine JL_q (wants_none rfl) rfl (ex_load_bx 0 ti_2 rfl rfl rfl) ?_
    refine JL_q (wants_none rfl) rfl (ex_neq rfl rfl) ?_
    refine JL_nil ?_
    refine N_then ?_
    refine J_if rfl (fun h4 => ?_) (fun h4 => ?_)
    · refine J_seq ?_
      refine J_region ?_
      refine JL_q (wants_none rfl) rfl (ex_assign rfl) ?_
      refine JL_nil ?_
      refine N_then ?_
      refine J_ret ?_
      refine N_then_ret ?_
      exact N_ret1 rfl (rv_tmp rfl) (fun w hh => ⟨(), rfl, hh.sel [] rfl⟩)
    · refine J_skip ?_
      refine N_then ?_
      refine J_seq ?_
      refine J_seq ?_
      refine J_region ?_
      refine JL_q (wants_none rfl) rfl (ex_fieldAddr fi_95_2 rfl rfl) ?_
      refine JL_q (wants_none rfl) rfl (ex_load_bx 1 ti_2 rfl rfl rfl) ?_
      refine JL_q (wants_none rfl) rfl (ex_fieldAddr fi_95_2 rfl rfl) ?_
      refine JL_q (wants_none rfl) rfl (ex_load_bx 0 ti_2 rfl rfl rfl) ?_
      refine JL_q (wants_none rfl) rfl (ex_neq rfl rfl) ?_
      refine JL_nil ?_
      refine N_then ?_
      refine J_if rfl (fun h5 => ?_) (fun h5 => ?_)
      · refine J_seq ?_
        refine J_region ?_
        refine JL_q (wants_none rfl) rfl (ex_assign rfl) ?_
        refine JL_nil ?_
        refine N_then ?_
        refine J_ret ?_
        refine N_then_ret ?_
        exact N_ret1 rfl (rv_tmp rfl) (fun w hh => ⟨(), rfl, hh.sel [] rfl⟩)
      · refine J_skip ?_
        refine N_then ?_
        refine J_seq ?_
        refine J_region ?_
        refine JL_q (wants_none rfl) rfl (ex_assign rfl) ?_
        refine JL_nil ?_
        refine N_then ?_
        refine J_ret ?_
        exact N_ret1 rfl (rv_tmp rfl) (fun w hh => ⟨(), rfl, hh.sel [] rfl⟩)

set_option maxHeartbeats 4000000 in
theorem c_laws_eqRuleS (A : Nat → Prop) (w : World) (hA : ∀ k, A k → k < w.heap.size) (v0_ : Value) (p0 : (List GRule)) (hp0 : Rd A w v0_ p0) (v1_ : Value) (p1 : (List GRule)) (hp1 : Rd A w v1_ p1) (r : Bool) (hr : F_laws_eqRuleS p0 p1 = some r) :
    Con Try.prog 49 [v0_, v1_] A w (fun x_ : Unit => .bool r) (fun x_ => []) := by
  refine Con_of (v := fun (r : Bool) (x_ : Unit) => .bool r) (fs := fun r x_ => []) Try.func49 rfl Try.ntmps49 rfl (((SH.start hA).start_rd rfl hp0).start_rd rfl hp1) rfl ?_ hr
  unfold F_laws_eqRuleS
  refine J_seq ?_
  refine J_region ?_
  refine JL_q (wants_none rfl) rfl (ex_assign rfl) ?_
  refine JL_nil ?_
  refine N_then ?_
  refine J_seq ?_
  refine J_seq ?_
  refine J_region ?_
  refine JL_q (wants_none rfl) rfl (ex_move rfl) ?_
  refine JL_q (wants_none rfl) rfl (ex_len_rd 1 Try.underlying39 rfl rfl) ?_
  refine JL_q (wants_none rfl) rfl (ex_move rfl) ?_
  refine JL_q (wants_none rfl) rfl (ex_len_rd 0 Try.underlying39 rfl rfl) ?_
  refine JL_q (wants_none rfl) rfl (ex_neq rfl rfl) ?_
  refine JL_nil ?_
  refine N_then ?_
  refine J_if rfl (fun h1 => ?_) (fun h1 => ?_)
  · refine J_seq ?_
    refine J_region ?_
    refine JL_q (wants_none rfl) rfl (ex_assign rfl) ?_
    refine JL_nil ?_
    refine N_then ?_
    refine J_ret ?_
    refine N_then_ret ?_
    exact N_ret1 rfl (rv_tmp rfl) (fun w hh => ⟨(), rfl, hh.sel [] rfl⟩)
  · refine J_skip ?_
    refine N_then ?_
    refine J_seq ?_
    refine J_seq ?_
    refine J_region ?_
    refine JL_q (wants_none rfl) rfl (ex_assign rfl) ?_
    refine JL_nil ?_
    refine N_then ?_
    refine J_loop' (S := Int) (G := Unit) (F_laws_eqRuleS_L1 p0 p1) (fun s2 _ => [(0, v0_), (1, v1_), (5, .int .i64 s2)]) (fun s2 _ => [.rd v0_ p0, .rd v1_ p1]) 0 () ⟨rfl, rfl, rfl, trivial⟩ [1, 0] rfl rfl (fun s2 g3 => ?_) (fun s2 g3 => ?_)
    · unfold F_laws_eqRuleS_L1
      refine J_seq ?_
      refine J_seq ?_
      refine J_region ?_
      refine JL_q (wants_none rfl) rfl (ex_move rfl) ?_
      refine JL_q (wants_none rfl) rfl (ex_move rfl) ?_
      refine JL_q (wants_none rfl) rfl (ex_len_rd 0 Try.underlying39 rfl rfl) ?_
      refine JL_q (wants_none rfl) rfl (ex_lss rfl rfl) ?_
      refine JL_nil ?_
      refine N_then ?_
      refine J_if rfl (fun h4 => ?_) (fun h4 => ?_)
      · refine J_skip ?_
        refine N_then ?_
        refine J_seq ?_
        refine J_block ?_
        refine J_seq ?_
        refine J_draw [] (by kernel_rfl) ?_
        refine JP_take (i := 0) [0, 1] [] rfl (by kernel_rfl) (by kernel_rfl) (by kernel_rfl) rfl rfl (wants_none rfl) rfl (ex_move rfl) ?_
        refine JP_take (i := 1) [0, 1] [] rfl (by kernel_rfl) (by kernel_rfl) (by kernel_rfl) rfl rfl (wants_none rfl) rfl (ex_move rfl) ?_
        refine JP_bnd fun y5 hy6 => ?_
        refine JP_sq (i := 2) [] rfl (by kernel_rfl) (by kernel_rfl) (by kernel_rfl) rfl (wants_none rfl) rfl (sq_index 0 Try.underlying39 ti_95 rfl rfl rfl hy6) (fun q7 => ?_)
        refine JP_sq (i := 3) [] rfl (by kernel_rfl) (by kernel_rfl) (by kernel_rfl) rfl (wants_none rfl) rfl (sq_load_pt_o 0 (GRule.opens _) ti_95 rfl rfl) (fun _ => ?_)
        refine JP_take (i := 4) [0, 1, 2] [] rfl (by kernel_rfl) (by kernel_rfl) (by kernel_rfl) rfl rfl (wants_none rfl) rfl (ex_move rfl) ?_
        refine JP_take (i := 5) [0, 1, 2] [] rfl (by kernel_rfl) (by kernel_rfl) (by kernel_rfl) rfl rfl (wants_none rfl) rfl (ex_move rfl) ?_
        refine JP_bnd fun y9 hy10 => ?_
        refine JP_sq (i := 6) [] rfl (by kernel_rfl) (by kernel_rfl) (by kernel_rfl) rfl (wants_none rfl) rfl (sq_index 2 Try.underlying39 ti_95 rfl rfl rfl hy10) (fun q11 => ?_)
        refine JP_sq (i := 7) [] rfl (by kernel_rfl) (by kernel_rfl) (by kernel_rfl) rfl (wants_none rfl) rfl (sq_load_pt_o 0 (GRule.opens _) ti_95 rfl rfl) (fun _ => ?_)
        refine JP_go [0, 1, 2, 3] [] rfl rfl rfl (fun w14 h1_15 hp13 => ?_)
        refine JD_bnd fun r16 hr17 => ?_
        refine JD_one (i := 8) (by kernel_rfl) ?_
        refine JO_call rfl (wants_none rfl) rfl Try.call93 rfl (Ca_of0 fun w hh => c_laws_eqRule _ w (fun _ hk => hk.elim) _ _ (GRule.rdmk (Rd.mk_int _ _ _) (Rd.mk_int _ _ _) (Rd.mk_int _ _ _)) _ _ (GRule.rdmk (Rd.mk_int _ _ _) (Rd.mk_int _ _ _) (Rd.mk_int _ _ _)) _ hr17) (fun _ => ?_)
        refine JD_take (i := 9) hp13 rfl (by kernel_rfl) (by kernel_rfl) (by kernel_rfl) (wants_none rfl) rfl (ex_not rfl) ?_
        refine JD_done (by kernel_rfl) ?_
        refine N_then ?_
        refine J_if rfl (fun h18 => ?_) (fun h18 => ?_)
        · refine J_seq ?_
          refine J_region ?_
          refine JL_q (wants_none rfl) rfl (ex_assign rfl) ?_
          refine JL_nil ?_
          refine N_then ?_
          refine J_ret ?_
          refine N_block_ret ?_
          refine N_then_ret ?_
          refine N_round_ret ?_
          refine N_then_ret ?_
          exact N_ret1 rfl (rv_tmp rfl) (fun w hh => ⟨(), rfl, hh.sel [] rfl⟩)
        · refine J_skip ?_
          refine N_block ?_
          refine N_then ?_
          refine J_region ?_
          refine JL_q (wants_none rfl) rfl (ex_move rfl) ?_
          refine JL_q (wants_none rfl) rfl (ex_add rfl rfl) ?_
          refine JL_q (wants_none rfl) rfl (ex_assign rfl) ?_
          refine JL_nil ?_
          exact N_next' () ⟨rfl, rfl, rfl, trivial⟩ [2, 3] rfl rfl
      · refine J_exit ?_
        refine N_then_exit ?_
        exact N_break' () ⟨rfl, rfl, rfl, trivial⟩ [0, 1] rfl rfl
    · refine N_then ?_
      refine J_seq ?_
      refine J_region ?_
      refine JL_q (wants_none rfl) rfl (ex_assign rfl) ?_
      refine JL_nil ?_
      refine N_then ?_
      refine J_ret ?_
      exact N_ret1 rfl (rv_tmp rfl) (fun w hh => ⟨(), rfl, hh.sel [] rfl⟩)

set_option maxHeartbeats 4000000 in
theorem c_laws_eqMachine (A : Nat → Prop) (w : World) (hA : ∀ k, A k → k < w.heap.size) (v0_ : Value) (p0 : GMachine) (hp0 : Rd A w v0_ p0) (v1_ : Value) (p1 : GMachine) (hp1 : Rd A w v1_ p1) (r : Bool) (hr : F_laws_eqMachine p0 p1 = some r) :
    Con Try.prog 20 [v0_, v1_] A w (fun x_ : Unit => .bool r) (fun x_ => []) := by
  obtain ⟨v0_0, rfl, hp0_0⟩ := GMachine.open hp0
  obtain ⟨v1_0, rfl, hp1_0⟩ := GMachine.open hp1
  refine Con_of (v := fun (r : Bool) (x_ : Unit) => .bool r) (fs := fun r x_ => []) Try.func20 rfl Try.ntmps20 rfl (((SH.start hA).start_rd rfl hp0_0).start_rd rfl hp1_0) rfl ?_ hr
  unfold F_laws_eqMachine
  refine J_seq ?_
  refine J_region ?_
  refine JL_st (wants_none rfl) rfl (st_box' rfl (fun w hh => (cv_aggs ⟨cv_int, cv_int, (hh.cv 1 rfl), trivial⟩))) (fun b1 => ?_)
  refine JL_st (wants_none rfl) rfl (st_box' rfl (fun w hh => (cv_aggs ⟨cv_int, cv_int, (hh.cv 1 rfl), trivial⟩))) (fun b2 => ?_)
  refine JL_q (wants_none rfl) rfl (ex_assign rfl) ?_
  refine JL_nil ?_
  refine N_then ?_
  refine J_seq ?_
  refine J_seq ?_
  refine J_region ?_
  refine JL_q (wants_none rfl) rfl (ex_fieldAddr fi_41_0 rfl rfl) ?_
  refine JL_q (wants_none rfl) rfl (ex_load_bx 1 ti_2 rfl rfl rfl) ?_
  refine JL_q (wants_none rfl) rfl (ex_fieldAddr fi_41_0 rfl rfl) ?_
  refine JL_q (wants_none rfl) rfl (ex_load_bx 0 ti_2 rfl rfl rfl) ?_
  refine JL_q (wants_none rfl) rfl (ex_neq rfl rfl) ?_
  refine JL_nil ?_
  refine N_then ?_
  refine J_if rfl (fun h3 => ?_) (fun h3 => ?_)
  · refine J_seq ?_
    refine J_region ?_
    refine JL_q (wants_none rfl) rfl (ex_assign rfl) ?_
    refine JL_nil ?_
    refine N_then ?_
    refine J_ret ?_
    refine N_then_ret ?_
    exact N_ret1 rfl (rv_tmp rfl) (fun w hh => ⟨(), rfl, hh.sel [] rfl⟩)
  · refine J_skip ?_
    refine N_then ?_
    refine J_seq ?_
    refine J_seq ?_
    refine J_region ?_
    refine JL_q (wants_none rfl) rfl (ex_fieldAddr fi_41_1 rfl rfl) ?_
    refine JL_q (wants_none rfl) rfl (ex_load_bx 1 ti_2 rfl rfl rfl) ?_
    refine JL_q (wants_none rfl) rfl (ex_fieldAddr fi_41_1 rfl rfl) ?_
    refine JL_q (wants_none rfl) rfl (ex_load_bx 0 ti_2 rfl rfl rfl) ?_
    refine JL_q (wants_none rfl) rfl (ex_neq rfl rfl) ?_
    refine JL_nil ?_
    refine N_then ?_
    refine J_if rfl (fun h4 => ?_) (fun h4 => ?_)
    · refine J_seq ?_
      refine J_region ?_
      refine JL_q (wants_none rfl) rfl (ex_assign rfl) ?_
      refine JL_nil ?_
      refine N_then ?_
      refine J_ret ?_
      refine N_then_ret ?_
      exact N_ret1 rfl (rv_tmp rfl) (fun w hh => ⟨(), rfl, hh.sel [] rfl⟩)
    · refine J_skip ?_
      refine N_then ?_
      refine J_seq ?_
      refine J_seq ?_
      refine J_region ?_
      refine JL_q (wants_none rfl) rfl (ex_fieldAddr fi_41_2 rfl rfl) ?_
      refine JL_q (wants_none rfl) rfl (ex_load_bx 1 ti_39 rfl rfl rfl) ?_
      refine JL_q (wants_none rfl) rfl (ex_fieldAddr fi_41_2 rfl rfl) ?_
      refine JL_q (wants_none rfl) rfl (ex_load_bx 0 ti_39 rfl rfl rfl) ?_
      refine JL_bnd fun r5 hr6 => ?_
      refine JL_call (wants_none rfl) rfl Try.call49 rfl (Ca_of0 fun w hh => c_laws_eqRuleS _ w (fun _ hk => hk.elim) _ _ (hh.rd0 3 rfl) _ _ (hh.rd0 2 rfl) _ hr6) (fun _ => ?_)
      refine JL_q (wants_none rfl) rfl (ex_not rfl) ?_
      refine JL_nil ?_
      refine N_then ?_
      refine J_if rfl (fun h7 => ?_) (fun h7 => ?_)
      · refine J_seq ?_
        refine J_region ?_
        refine JL_q (wants_none rfl) rfl (ex_assign rfl) ?_
        refine JL_nil ?_
        refine N_then ?_
        refine J_ret ?_
        refine N_then_ret ?_
        exact N_ret1 rfl (rv_tmp rfl) (fun w hh => ⟨(), rfl, hh.sel [] rfl⟩)
      · refine J_skip ?_
        refine N_then ?_
        refine J_seq ?_
        refine J_region ?_
        refine JL_q (wants_none rfl) rfl (ex_assign rfl) ?_
        refine JL_nil ?_
        refine N_then ?_
        refine J_ret ?_
        exact N_ret1 rfl (rv_tmp rfl) (fun w hh => ⟨(), rfl, hh.sel [] rfl⟩)

theorem mk_laws_markRuleS : MarkCon Try.prog 50 F_laws_markRuleS := by
  intro w v0_ p0 B_ p1 r hd_ hn_ hr
  refine (ConM_of (vs := [v0_, .int .i64 p1]) (v := fun (r : Int × (List GRule)) (_ : Unit) => .int .i64 r.1) (fs := fun r _ => [mkr v0_ r.2 B_, rest w B_]) Try.func50 rfl Try.ntmps50 rfl (mark_start hd_ hn_) rfl ?_ hr).mono (fun e w2 h_ => by obtain ⟨_, he, hk⟩ := h_; exact ⟨he, mark_end hk⟩)
  unfold F_laws_markRuleS
  refine J_seq ?_
  refine J_region ?_
  refine JL_q (wants_none rfl) rfl (ex_assign rfl) ?_
  refine JL_nil ?_
  refine N_then ?_
  refine J_seq ?_
  refine J_seq ?_
  refine J_region ?_
  refine JL_q (wants_none rfl) rfl (ex_assign rfl) ?_
  refine JL_nil ?_
  refine N_then ?_
  refine J_loop' (S := (List GRule) × Int × Int) (G := Unit) (F_laws_markRuleS_L1) (fun s1 _ => [(0, v0_), (1, .int .i64 s1.2.1), (5, .int .i64 s1.2.2)]) (fun s1 _ => [rest w B_, mkr v0_ s1.1 B_]) (p0, p1, 0) () ⟨rfl, rfl, rfl, trivial⟩ [1, 0] rfl rfl (fun s1 g2 => ?_) (fun s1 g2 => ?_)
  · unfold F_laws_markRuleS_L1
    refine J_seq ?_
    refine J_seq ?_
    refine J_region ?_
    refine JL_q (wants_none rfl) rfl (ex_move rfl) ?_
    refine JL_q (wants_none rfl) rfl (ex_move rfl) ?_
    refine JL_q (wants_none rfl) rfl (ex_len_mk 1 Try.underlying39 rfl rfl) ?_
    refine JL_q (wants_none rfl) rfl (ex_lss rfl rfl) ?_
    refine JL_nil ?_
    refine N_then ?_
    refine J_if rfl (fun h3 => ?_) (fun h3 => ?_)
    · refine J_skip ?_
      refine N_then ?_
      refine J_seq ?_
      refine J_block ?_
      refine J_seq ?_
      refine J_region ?_
      refine JL_q (wants_none rfl) rfl (ex_move rfl) ?_
      refine JL_q (wants_none rfl) rfl (ex_move rfl) ?_
      refine JL_q (wants_none rfl) rfl (ex_move rfl) ?_
      refine JL_bnd fun y4 hy5 => ?_
      refine JL_mk_open 1 rfl hy5 ?_; rintro b6 o8 cap7 rfl
      refine JL_q (wants_none rfl) rfl (ex_index_lit Try.underlying39 ti_95 rfl rfl hy5 (by first | rfl | simp)) ?_
      refine JL_q (wants_none rfl) rfl (ex_fieldAddr fi_95_0 rfl rfl) ?_
      refine JL_sk (wants_none rfl) (sk_store_mk 1 (GRule.fs_Write _) ti_2 rfl rfl rfl hy5) ?_
      refine JL_nil ?_
      refine N_then ?_
      refine J_seq ?_
      refine J_region ?_
      refine JL_q (wants_none rfl) rfl (ex_move rfl) ?_
      refine JL_q (wants_none rfl) rfl (ex_add rfl rfl) ?_
      refine JL_q (wants_none rfl) rfl (ex_assign rfl) ?_
      refine JL_nil ?_
      refine N_then ?_
      refine J_seq ?_
      refine J_region ?_
      refine JL_q (wants_none rfl) rfl (ex_move rfl) ?_
      refine JL_q (wants_none rfl) rfl (ex_move rfl) ?_
      refine JL_q (wants_none rfl) rfl (ex_move rfl) ?_
      refine JL_bnd fun y9 hy10 => ?_
      refine JL_q (wants_none rfl) rfl (ex_index_lit Try.underlying39 ti_95 rfl rfl hy10 (by first | rfl | simp)) ?_
      refine JL_q (wants_none rfl) rfl (ex_fieldAddr fi_95_1 rfl rfl) ?_
      refine JL_sk (wants_none rfl) (sk_store_mk 1 (GRule.fs_Move _) ti_2 rfl rfl rfl hy10) ?_
      refine JL_nil ?_
      refine N_then ?_
      refine J_seq ?_
      refine J_region ?_
      refine JL_q (wants_none rfl) rfl (ex_move rfl) ?_
      refine JL_q (wants_none rfl) rfl (ex_add rfl rfl) ?_
      refine JL_q (wants_none rfl) rfl (ex_assign rfl) ?_
      refine JL_nil ?_
      refine N_then ?_
      refine J_seq ?_
      refine J_region ?_
      refine JL_q (wants_none rfl) rfl (ex_move rfl) ?_
      refine JL_q (wants_none rfl) rfl (ex_move rfl) ?_
      refine JL_q (wants_none rfl) rfl (ex_move rfl) ?_
      refine JL_bnd fun y11 hy12 => ?_
      refine JL_q (wants_none rfl) rfl (ex_index_lit Try.underlying39 ti_95 rfl rfl hy12 (by first | rfl | simp)) ?_
      refine JL_q (wants_none rfl) rfl (ex_fieldAddr fi_95_2 rfl rfl) ?_
      refine JL_sk (wants_none rfl) (sk_store_mk 1 (GRule.fs_Next _) ti_2 rfl rfl rfl hy12) ?_
      refine JL_nil ?_
      refine N_then ?_
      refine J_region ?_
      refine JL_q (wants_none rfl) rfl (ex_move rfl) ?_
      refine JL_q (wants_none rfl) rfl (ex_add rfl rfl) ?_
      refine JL_q (wants_none rfl) rfl (ex_assign rfl) ?_
      refine JL_nil ?_
      refine N_block ?_
      refine N_then ?_
      refine J_region ?_
      refine JL_q (wants_none rfl) rfl (ex_move rfl) ?_
      refine JL_q (wants_none rfl) rfl (ex_add rfl rfl) ?_
      refine JL_q (wants_none rfl) rfl (ex_assign rfl) ?_
      refine JL_nil ?_
      exact N_next' () ⟨rfl, rfl, rfl, trivial⟩ [0, 1] rfl rfl
    · refine J_exit ?_
      refine N_then_exit ?_
      exact N_break' () ⟨rfl, rfl, rfl, trivial⟩ [0, 1] rfl rfl
  · refine N_then ?_
    refine J_seq ?_
    refine J_region ?_
    refine JL_q (wants_none rfl) rfl (ex_move rfl) ?_
    refine JL_q (wants_none rfl) rfl (ex_assign rfl) ?_
    refine JL_nil ?_
    refine N_then ?_
    refine J_ret ?_
    exact N_ret1 rfl (rv_tmp rfl) (fun w hh => ⟨(), rfl, hh.sel [1, 0] rfl⟩)

theorem mk_laws_markConfigS : MarkCon Try.prog 22 F_laws_markConfigS := by
  intro w v0_ p0 B_ p1 r hd_ hn_ hr
  refine (ConM_of (vs := [v0_, .int .i64 p1]) (v := fun (r : Int × (List GConfig)) (_ : Unit) => .int .i64 r.1) (fs := fun r _ => [mkr v0_ r.2 B_, rest w B_]) Try.func22 rfl Try.ntmps22 rfl (mark_start hd_ hn_) rfl ?_ hr).mono (fun e w2 h_ => by obtain ⟨_, he, hk⟩ := h_; exact ⟨he, mark_end hk⟩)
  unfold F_laws_markConfigS
  refine J_seq ?_
  refine J_region ?_
  refine JL_q (wants_none rfl) rfl (ex_assign rfl) ?_
  refine JL_nil ?_
  refine N_then ?_
  refine J_seq ?_
  refine J_seq ?_
  refine J_region ?_
  refine JL_q (wants_none rfl) rfl (ex_assign rfl) ?_
  refine JL_nil ?_
  refine N_then ?_
  refine J_loop' (S := (List GConfig) × Int × Int) (G := Unit) (F_laws_markConfigS_L1) (fun s1 _ => [(0, v0_), (1, .int .i64 s1.2.1), (5, .int .i64 s1.2.2)]) (fun s1 _ => [rest w B_, mkr v0_ s1.1 B_]) (p0, p1, 0) () ⟨rfl, rfl, rfl, trivial⟩ [1, 0] rfl rfl (fun s1 g2 => ?_) (fun s1 g2 => ?_)
  · unfold F_laws_markConfigS_L1
    refine J_seq ?_
    refine J_seq ?_
    refine J_region ?_
    refine JL_q (wants_none rfl) rfl (ex_move rfl) ?_
    refine JL_q (wants_none rfl) rfl (ex_move rfl) ?_
    refine JL_q (wants_none rfl) rfl (ex_len_mk 1 Try.underlying36 rfl rfl) ?_
    refine JL_q (wants_none rfl) rfl (ex_lss rfl rfl) ?_
    refine JL_nil ?_
    refine N_then ?_
    refine J_if rfl (fun h3 => ?_) (fun h3 => ?_)
    · refine J_skip ?_
      refine N_then ?_
      refine J_seq ?_
      refine J_block ?_
      refine J_seq ?_
      refine J_region ?_
      refine JL_q (wants_none rfl) rfl (ex_move rfl) ?_
      refine JL_q (wants_none rfl) rfl (ex_move rfl) ?_
      refine JL_q (wants_none rfl) rfl (ex_move rfl) ?_
      refine JL_bnd fun y4 hy5 => ?_
      refine JL_mk_open 1 rfl hy5 ?_; rintro b6 o8 cap7 rfl
      refine JL_q (wants_none rfl) rfl (ex_index_lit Try.underlying36 ti_66 rfl rfl hy5 (by first | rfl | simp)) ?_
      refine JL_q (wants_none rfl) rfl (ex_fieldAddr fi_66_0 rfl rfl) ?_
      refine JL_sk (wants_none rfl) (sk_store_mk 1 (GConfig.fs_State _) ti_2 rfl rfl rfl hy5) ?_
      refine JL_nil ?_
      refine N_then ?_
      refine J_seq ?_
      refine J_region ?_
      refine JL_q (wants_none rfl) rfl (ex_move rfl) ?_
      refine JL_q (wants_none rfl) rfl (ex_add rfl rfl) ?_
      refine JL_q (wants_none rfl) rfl (ex_assign rfl) ?_
      refine JL_nil ?_
      refine N_then ?_
      refine J_seq ?_
      refine J_region ?_
      refine JL_q (wants_none rfl) rfl (ex_move rfl) ?_
      refine JL_q (wants_none rfl) rfl (ex_move rfl) ?_
      refine JL_bnd fun y9 hy10 => ?_
      refine JL_q (wants_none rfl) rfl (ex_index_lit Try.underlying36 ti_66 rfl rfl hy10 (by first | rfl | simp)) ?_
      refine JL_q (wants_none rfl) rfl (ex_fieldAddr fi_66_1 rfl rfl) ?_
      refine JL_st (wants_none rfl) rfl (st_load_mk 1 (GConfig.fc_Left _) ti_24 rfl rfl hy10) (fun u11 => ?_)
      refine JL_q (wants_none rfl) rfl (ex_move rfl) ?_
      refine JL_bnd fun r12 hr13 => ?_
      refine JL_markc 1 mk_laws_markInt64S (GConfig.fc_Left _) (wants_none rfl) rfl Try.call12 rfl rfl hy10 hr13 ?_
      refine JL_q (wants_none rfl) rfl (ex_assign rfl) ?_
      refine JL_nil ?_
      refine N_then ?_
      refine J_region ?_
      refine JL_q (wants_none rfl) rfl (ex_move rfl) ?_
      refine JL_q (wants_none rfl) rfl (ex_move rfl) ?_
      refine JL_bnd fun y14 hy15 => ?_
      refine JL_q (wants_none rfl) rfl (ex_index_lit Try.underlying36 ti_66 rfl rfl hy15 (by first | rfl | simp)) ?_
      refine JL_q (wants_none rfl) rfl (ex_fieldAddr fi_66_2 rfl rfl) ?_
      refine JL_st (wants_none rfl) rfl (st_load_mk 1 (GConfig.fc_Right _) ti_24 rfl rfl hy15) (fun u16 => ?_)
      refine JL_q (wants_none rfl) rfl (ex_move rfl) ?_
      refine JL_bnd fun r17 hr18 => ?_
      refine JL_markc 1 mk_laws_markInt64S (GConfig.fc_Right _) (wants_none rfl) rfl Try.call12 rfl rfl hy15 hr18 ?_
      refine JL_q (wants_none rfl) rfl (ex_assign rfl) ?_
      refine JL_nil ?_
      refine N_block ?_
      refine N_then ?_
      refine J_region ?_
      refine JL_q (wants_none rfl) rfl (ex_move rfl) ?_
      refine JL_q (wants_none rfl) rfl (ex_add rfl rfl) ?_
      refine JL_q (wants_none rfl) rfl (ex_assign rfl) ?_
      refine JL_nil ?_
      exact N_next' () ⟨rfl, rfl, rfl, trivial⟩ [0, 1] rfl rfl
    · refine J_exit ?_
      refine N_then_exit ?_
      exact N_break' () ⟨rfl, rfl, rfl, trivial⟩ [0, 1] rfl rfl
  · refine N_then ?_
    refine J_seq ?_
    refine J_region ?_
    refine JL_q (wants_none rfl) rfl (ex_move rfl) ?_
    refine JL_q (wants_none rfl) rfl (ex_assign rfl) ?_
    refine JL_nil ?_
    refine N_then ?_
    refine J_ret ?_
    exact N_ret1 rfl (rv_tmp rfl) (fun w hh => ⟨(), rfl, hh.sel [1, 0] rfl⟩)

set_option maxHeartbeats 4000000 in
theorem c_laws_heldConfigS (A : Nat → Prop) (w : World) (hA : ∀ k, A k → k < w.heap.size) (v0_ : Value) (p0 : (List GConfig)) (hp0 : Rd A w v0_ p0) (p1 : Int) (r : Int) (hr : F_laws_heldConfigS p0 p1 = some r) :
    Con Try.prog 23 [v0_, .int .i64 p1] A w (fun x_ : Unit => .int .i64 r) (fun x_ => []) := by
  refine Con_of (v := fun (r : Int) (x_ : Unit) => .int .i64 r) (fs := fun r x_ => []) Try.func23 rfl Try.ntmps23 rfl ((SH.start hA).start_rd rfl hp0) rfl ?_ hr
  unfold F_laws_heldConfigS
  refine J_seq ?_
  refine J_region ?_
  refine JL_q (wants_none rfl) rfl (ex_assign rfl) ?_
  refine JL_nil ?_
  refine N_then ?_
  refine J_seq ?_
  refine J_seq ?_
  refine J_region ?_
  refine JL_q (wants_none rfl) rfl (ex_assign rfl) ?_
  refine JL_nil ?_
  refine N_then ?_
  refine J_loop' (S := Int × Int) (G := Unit) (F_laws_heldConfigS_L1 p0) (fun s1 _ => [(0, v0_), (1, .int .i64 s1.1), (5, .int .i64 s1.2)]) (fun s1 _ => [.rd v0_ p0]) (p1, 0) () ⟨rfl, rfl, rfl, trivial⟩ [0] rfl rfl (fun s1 g2 => ?_) (fun s1 g2 => ?_)
  · unfold F_laws_heldConfigS_L1
    refine J_seq ?_
    refine J_seq ?_
    refine J_region ?_
    refine JL_q (wants_none rfl) rfl (ex_move rfl) ?_
    refine JL_q (wants_none rfl) rfl (ex_move rfl) ?_
    refine JL_q (wants_none rfl) rfl (ex_len_rd 0 Try.underlying36 rfl rfl) ?_
    refine JL_q (wants_none rfl) rfl (ex_lss rfl rfl) ?_
    refine JL_nil ?_
    refine N_then ?_
    refine J_if rfl (fun h3 => ?_) (fun h3 => ?_)
    · refine J_skip ?_
      refine N_then ?_
      refine J_seq ?_
      refine J_block ?_
      refine J_seq ?_
      refine J_seq ?_
      refine J_region ?_
      refine JL_q (wants_none rfl) rfl (ex_move rfl) ?_
      refine JL_q (wants_none rfl) rfl (ex_move rfl) ?_
      refine JL_bnd fun y4 hy5 => ?_
      refine JL_st (wants_none rfl) rfl (st_index 0 Try.underlying36 ti_66 rfl rfl rfl hy5) (fun q6 => ?_)
      refine JL_st (wants_none rfl) rfl (st_field_pt 0 (GConfig.at_State _) fi_66_0 rfl rfl rfl) (fun q7 => ?_)
      refine JL_st (wants_none rfl) rfl (st_load_pt_o 0 (opens_int _) ti_2 rfl rfl) (fun _ => ?_)
      refine JL_q (wants_none rfl) rfl (ex_move rfl) ?_
      refine JL_q (wants_none rfl) rfl (ex_neq rfl rfl) ?_
      refine JL_nil ?_
      refine N_then ?_
      refine J_if rfl (fun h9 => ?_) (fun h9 => ?_)
      · refine J_seq ?_
        refine J_region ?_
        refine JL_q (wants_none rfl) rfl (ex_assign rfl) ?_
        refine JL_nil ?_
        refine N_then ?_
        refine J_ret ?_
        refine N_then_ret ?_
        refine N_block_ret ?_
        refine N_then_ret ?_
        refine N_round_ret ?_
        refine N_then_ret ?_
        exact N_ret1 rfl (rv_tmp rfl) (fun w hh => ⟨(), rfl, hh.sel [] rfl⟩)
      · refine J_skip ?_
        refine N_then ?_
        refine J_seq ?_
        refine J_region ?_
        refine JL_q (wants_none rfl) rfl (ex_move rfl) ?_
        refine JL_q (wants_none rfl) rfl (ex_add rfl rfl) ?_
        refine JL_q (wants_none rfl) rfl (ex_assign rfl) ?_
        refine JL_nil ?_
        refine N_then ?_
        refine J_seq ?_
        refine J_region ?_
        refine JL_q (wants_none rfl) rfl (ex_move rfl) ?_
        refine JL_q (wants_none rfl) rfl (ex_move rfl) ?_
        refine JL_bnd fun y10 hy11 => ?_
        refine JL_st (wants_none rfl) rfl (st_index 2 Try.underlying36 ti_66 rfl rfl rfl hy11) (fun q12 => ?_)
        refine JL_st (wants_none rfl) rfl (st_field_pt 0 (GConfig.at_Left _) fi_66_1 rfl rfl rfl) (fun q13 => ?_)
        refine JL_st (wants_none rfl) rfl (st_load_pt_o 0 (opens_sl _) ti_24 rfl rfl) (fun v14 => ?_)
        refine JL_q (wants_none rfl) rfl (ex_move rfl) ?_
        refine JL_bnd fun r15 hr16 => ?_
        refine JL_call (wants_none rfl) rfl Try.call13 rfl (Ca_of0 fun w hh => c_laws_heldInt64S _ w (fun _ hk => hk.elim) _ _ (hh.rd0 0 rfl) _ _ hr16) (fun _ => ?_)
        refine JL_q (wants_none rfl) rfl (ex_assign rfl) ?_
        refine JL_nil ?_
        refine N_then ?_
        refine J_seq ?_
        refine J_seq ?_
        refine J_region ?_
        refine JL_q (wants_none rfl) rfl (ex_move rfl) ?_
        refine JL_q (wants_none rfl) rfl (ex_lss rfl rfl) ?_
        refine JL_nil ?_
        refine N_then ?_
        refine J_if rfl (fun h17 => ?_) (fun h17 => ?_)
        · refine J_seq ?_
          refine J_region ?_
          refine JL_q (wants_none rfl) rfl (ex_assign rfl) ?_
          refine JL_nil ?_
          refine N_then ?_
          refine J_ret ?_
          refine N_then_ret ?_
          refine N_block_ret ?_
          refine N_then_ret ?_
          refine N_round_ret ?_
          refine N_then_ret ?_
          exact N_ret1 rfl (rv_tmp rfl) (fun w hh => ⟨(), rfl, hh.sel [] rfl⟩)
        · refine J_skip ?_
          refine N_then ?_
          refine J_seq ?_
          refine J_region ?_
          refine JL_q (wants_none rfl) rfl (ex_move rfl) ?_
          refine JL_q (wants_none rfl) rfl (ex_move rfl) ?_
          refine JL_bnd fun y18 hy19 => ?_
          refine JL_st (wants_none rfl) rfl (st_index 5 Try.underlying36 ti_66 rfl rfl rfl hy19) (fun q20 => ?_)
          refine JL_st (wants_none rfl) rfl (st_field_pt 0 (GConfig.at_Right _) fi_66_2 rfl rfl rfl) (fun q21 => ?_)
          refine JL_st (wants_none rfl) rfl (st_load_pt_o 0 (opens_sl _) ti_24 rfl rfl) (fun v22 => ?_)
          refine JL_q (wants_none rfl) rfl (ex_move rfl) ?_
          refine JL_bnd fun r23 hr24 => ?_
          refine JL_call (wants_none rfl) rfl Try.call13 rfl (Ca_of0 fun w hh => c_laws_heldInt64S _ w (fun _ hk => hk.elim) _ _ (hh.rd0 0 rfl) _ _ hr24) (fun _ => ?_)
          refine JL_q (wants_none rfl) rfl (ex_assign rfl) ?_
          refine JL_nil ?_
          refine N_then ?_
          refine J_seq ?_
          refine J_region ?_
          refine JL_q (wants_none rfl) rfl (ex_move rfl) ?_
          refine JL_q (wants_none rfl) rfl (ex_lss rfl rfl) ?_
          refine JL_nil ?_
          refine N_then ?_
          refine J_if rfl (fun h25 => ?_) (fun h25 => ?_)
          · refine J_seq ?_
            refine J_region ?_
            refine JL_q (wants_none rfl) rfl (ex_assign rfl) ?_
            refine JL_nil ?_
            refine N_then ?_
            refine J_ret ?_
            refine N_block_ret ?_
            refine N_then_ret ?_
            refine N_round_ret ?_
            refine N_then_ret ?_
            exact N_ret1 rfl (rv_tmp rfl) (fun w hh => ⟨(), rfl, hh.sel [] rfl⟩)
          · refine J_skip ?_
            refine N_block ?_
            refine N_then ?_
            refine J_region ?_
            refine JL_q (wants_none rfl) rfl (ex_move rfl) ?_
            refine JL_q (wants_none rfl) rfl (ex_add rfl rfl) ?_
            refine JL_q (wants_none rfl) rfl (ex_assign rfl) ?_
            refine JL_nil ?_
            exact N_next' () ⟨rfl, rfl, rfl, trivial⟩ [8] rfl rfl
    · refine J_exit ?_
      refine N_then_exit ?_
      exact N_break' () ⟨rfl, rfl, rfl, trivial⟩ [0] rfl rfl
  · refine N_then ?_
    refine J_seq ?_
    refine J_region ?_
    refine JL_q (wants_none rfl) rfl (ex_move rfl) ?_
    refine JL_q (wants_none rfl) rfl (ex_assign rfl) ?_
    refine JL_nil ?_
    refine N_then ?_
    refine J_ret ?_
    exact N_ret1 rfl (rv_tmp rfl) (fun w hh => ⟨(), rfl, hh.sel [] rfl⟩)

set_option maxHeartbeats 4000000 in
theorem c_laws_FnExactRunOfTiling (A : Nat → Prop) (w : World) (hA : ∀ k, A k → k < w.heap.size) (v0_ : Value) (p0 : GMachine) (hp0 : Rd A w v0_ p0) (v1_ : Value) (p1 : (List Int)) (hp1 : Rd A w v1_ p1) (v2_ : Value) (p2 : (List (List Int))) (hp2 : Rd A w v2_ p2) (r : Bool) (hr : F_laws_FnExactRunOfTiling p0 p1 p2 = some r) :
    Con Try.prog 4 [v0_, v1_, v2_] A w (fun x_ : Unit => .bool r) (fun x_ => []) := by
  obtain ⟨v0_0, rfl, hp0_0⟩ := GMachine.open hp0
  refine Con_of (v := fun (r : Bool) (x_ : Unit) => .bool r) (fs := fun r x_ => []) Try.func4 rfl Try.ntmps4 rfl ((((SH.start hA).start_rd rfl hp0_0).start_rd rfl hp1).start_rd rfl hp2) rfl ?_ hr
  unfold F_laws_FnExactRunOfTiling
  refine J_seq ?_
  refine J_region ?_
  refine JL_st (wants_none rfl) rfl (st_box' rfl (fun w hh => (cv_aggs ⟨cv_int, cv_int, (hh.cv 2 rfl), trivial⟩))) (fun b1 => ?_)
  refine JL_q (wants_none rfl) rfl (ex_assign rfl) ?_
  refine JL_nil ?_
  refine N_then ?_
  refine J_seq ?_
  refine J_seq ?_
  refine J_region ?_
  refine JL_q (wants_none rfl) rfl (ex_move rfl) ?_
  refine JL_q (wants_none rfl) rfl (ex_len_rd 2 Try.underlying24 rfl rfl) ?_
  refine JL_q (wants_none rfl) rfl (ex_gtr rfl rfl) ?_
  refine JL_nil ?_
  refine N_then ?_
  refine J_if rfl (fun h2 => ?_) (fun h2 => ?_)
  · refine J_seq ?_
    refine J_region ?_
    refine JL_q (wants_none rfl) rfl (ex_assign rfl) ?_
    refine JL_nil ?_
    refine N_then ?_
    refine J_ret ?_
    refine N_then_ret ?_
    exact N_ret1 rfl (rv_tmp rfl) (fun w hh => ⟨(), rfl, hh.sel [] rfl⟩)
  · refine J_skip ?_
    refine N_then ?_
    refine J_seq ?_
    refine J_region ?_
    refine JL_q (wants_none rfl) rfl (ex_assign rfl) ?_
    refine JL_nil ?_
    refine N_then ?_
    refine J_seq ?_
    refine J_region ?_
    refine JL_q (wants_none rfl) rfl (ex_load_bx_agg 0 ti_34 rfl rfl rfl rfl) ?_
    refine JL_q (wants_none rfl) rfl (ex_move rfl) ?_
    refine JL_bnd fun r3 hr4 => ?_
    refine JL_call (wants_none rfl) rfl Try.call14 rfl (Ca_of0 fun w hh => c_laws_szMachine _ w (fun _ hk => hk.elim) _ _ (GMachine.rdmk (Rd.mk_int _ _ _) (Rd.mk_int _ _ _) (hh.rd0 3 rfl)) _ _ hr4) (fun _ => ?_)
    refine JL_q (wants_none rfl) rfl (ex_assign rfl) ?_
    refine JL_nil ?_
    refine N_then ?_
    refine J_seq ?_
    refine J_seq ?_
    refine J_region ?_
    refine JL_q (wants_none rfl) rfl (ex_move rfl) ?_
    refine JL_q (wants_none rfl) rfl (ex_lss rfl rfl) ?_
    refine JL_nil ?_
    refine N_then ?_
    refine J_if rfl (fun h5 => ?_) (fun h5 => ?_)
    · refine J_seq ?_
      refine J_region ?_
      refine JL_q (wants_none rfl) rfl (ex_assign rfl) ?_
      refine JL_nil ?_
      refine N_then ?_
      refine J_ret ?_
      refine N_then_ret ?_
      exact N_ret1 rfl (rv_tmp rfl) (fun w hh => ⟨(), rfl, hh.sel [] rfl⟩)
    · refine J_skip ?_
      refine N_then ?_
      refine J_seq ?_
      refine J_region ?_
      refine JL_q (wants_none rfl) rfl (ex_move rfl) ?_
      refine JL_q (wants_none rfl) rfl (ex_move rfl) ?_
      refine JL_bnd fun r6 hr7 => ?_
      refine JL_call (wants_none rfl) rfl Try.call5 rfl (Ca_of0 fun w hh => c_laws_szInt64SS _ w (fun _ hk => hk.elim) _ _ (hh.rd0 1 rfl) _ _ hr7) (fun _ => ?_)
      refine JL_q (wants_none rfl) rfl (ex_assign rfl) ?_
      refine JL_nil ?_
      refine N_then ?_
      refine J_seq ?_
      refine J_seq ?_
      refine J_region ?_
      refine JL_q (wants_none rfl) rfl (ex_move rfl) ?_
      refine JL_q (wants_none rfl) rfl (ex_lss rfl rfl) ?_
      refine JL_nil ?_
      refine N_then ?_
      refine J_if rfl (fun h8 => ?_) (fun h8 => ?_)
      · refine J_seq ?_
        refine J_region ?_
        refine JL_q (wants_none rfl) rfl (ex_assign rfl) ?_
        refine JL_nil ?_
        refine N_then ?_
        refine J_ret ?_
        refine N_then_ret ?_
        exact N_ret1 rfl (rv_tmp rfl) (fun w hh => ⟨(), rfl, hh.sel [] rfl⟩)
      · refine J_skip ?_
        refine N_then ?_
        refine J_seq ?_
        refine J_region ?_
        refine JL_q (wants_none rfl) rfl (ex_load_bx_agg 0 ti_34 rfl rfl rfl rfl) ?_
        refine JL_bnd fun r9 hr10 => ?_
        refine JL_call (wants_none rfl) rfl Try.call16 rfl (Ca_self (fun _ => rfl) fun w hh => c_laws_toMachine _ w (fun _ hk => hk.elim) _ _ (GMachine.rdmk (Rd.mk_int _ _ _) (Rd.mk_int _ _ _) (hh.rd0 3 rfl)) _ hr10) (fun x11 => ?_)
        refine JL_q (wants_none rfl) rfl (ex_move rfl) ?_
        refine JL_bnd fun r12 hr13 => ?_
        refine JL_call (wants_none rfl) rfl Try.call17 rfl (Ca_self (fun _ => rfl) fun w hh => c_laws_toInt64S _ w (fun _ hk => hk.elim) _ _ (hh.rd0 3 rfl) _ hr13) (fun x14 => ?_)
        refine JL_q (wants_none rfl) rfl (ex_move rfl) ?_
        refine JL_bnd fun r15 hr16 => ?_
        refine JL_call (wants_none rfl) rfl Try.call7 rfl (Ca_self (fun _ => rfl) fun w hh => c_laws_toInt64SS _ w (fun _ hk => hk.elim) _ _ (hh.rd0 3 rfl) _ hr16) (fun x17 => ?_)
        obtain ⟨x17_0, x17_1⟩ := x17
        refine JL_bnd fun r18 hr19 => ?_
        refine JL_call (wants_none rfl) rfl Try.call15 rfl (Ca_self (fun _ => rfl) fun w hh => c_spec_RunOfTiling _ w (fun _ hk => hk.elim) _ _ (GMachine.rdmk (Rd.mk_int _ _ _) (Rd.mk_int _ _ _) (hh.ow0 2 rfl)) _ _ (hh.ow0 1 rfl) _ _ (hh.od0 0 rfl) _ hr19) (fun x20 => ?_)
        obtain ⟨x20_0, x20_1⟩ := x20
        refine JL_q (wants_none rfl) rfl (ex_move rfl) ?_
        refine JL_q (wants_none rfl) rfl (ex_extract rfl rfl) ?_
        refine JL_q (wants_none rfl) rfl (ex_extract rfl rfl) ?_
        refine JL_q (wants_none rfl) rfl (ex_assign rfl) ?_
        refine JL_q (wants_none rfl) rfl (ex_assign rfl) ?_
        refine JL_nil ?_
        refine N_then ?_
        refine J_seq ?_
        refine J_region ?_
        refine JL_q (wants_none rfl) rfl (ex_load_bx_agg 4 ti_34 rfl rfl rfl rfl) ?_
        refine JL_bnd fun r21 hr22 => ?_
        refine JL_call (wants_none rfl) rfl Try.call16 rfl (Ca_self (fun _ => rfl) fun w hh => c_laws_toMachine _ w (fun _ hk => hk.elim) _ _ (GMachine.rdmk (Rd.mk_int _ _ _) (Rd.mk_int _ _ _) (hh.rd0 7 rfl)) _ hr22) (fun x23 => ?_)
        refine JL_st (wants_none rfl) rfl (st_alloc zi_41 rfl) (fun b24 => ?_)
        refine JL_sk (wants_none rfl) (sk_store_bx' 0 ti_41 rfl rfl (fun w hh => (cv_aggs ⟨cv_int, cv_int, (hh.cv_ow 1 rfl), trivial⟩)) rfl rfl rfl rfl) ?_
        refine JL_nil ?_
        refine N_then ?_
        refine J_seq ?_
        refine J_region ?_
        refine JL_q (wants_none rfl) rfl (ex_move rfl) ?_
        refine JL_bnd fun r25 hr26 => ?_
        refine JL_call (wants_none rfl) rfl Try.call17 rfl (Ca_self (fun _ => rfl) fun w hh => c_laws_toInt64S _ w (fun _ hk => hk.elim) _ _ (hh.rd0 8 rfl) _ hr26) (fun x27 => ?_)
        refine JL_q (wants_none rfl) rfl (ex_assign rfl) ?_
        refine JL_nil ?_
        refine N_then ?_
        refine J_seq ?_
        refine J_region ?_
        refine JL_q (wants_none rfl) rfl (ex_move rfl) ?_
        refine JL_bnd fun r28 hr29 => ?_
        refine JL_call (wants_none rfl) rfl Try.call7 rfl (Ca_self (fun _ => rfl) fun w hh => c_laws_toInt64SS _ w (fun _ hk => hk.elim) _ _ (hh.rd0 8 rfl) _ hr29) (fun x30 => ?_)
        obtain ⟨x30_0, x30_1⟩ := x30
        refine JL_q (wants_none rfl) rfl (ex_assign rfl) ?_
        refine JL_nil ?_
        refine N_then ?_
        refine J_seq ?_
        refine J_region ?_
        refine JL_q (wants_none rfl) rfl (ex_load_bx_agg 2 ti_41 rfl rfl rfl rfl) ?_
        refine JL_q (wants_none rfl) rfl (ex_move rfl) ?_
        refine JL_q (wants_none rfl) rfl (ex_move rfl) ?_
        refine JL_bnd fun r31 hr32 => ?_
        refine JL_call (wants_none rfl) rfl Try.call18 rfl (Ca_self (fun _ => rfl) fun w hh => c_impl_RunOfTiling _ w (fun _ hk => hk.elim) _ _ (GMachine.rdmk (Rd.mk_int _ _ _) (Rd.mk_int _ _ _) (hh.ow0 3 rfl)) _ _ (hh.ow0 1 rfl) _ _ (hh.od0 0 rfl) _ hr32) (fun x33 => ?_)
        obtain ⟨x33_0, x33_1⟩ := x33
        refine JL_q (wants_none rfl) rfl (ex_move rfl) ?_
        refine JL_q (wants_none rfl) rfl (ex_extract rfl rfl) ?_
        refine JL_q (wants_none rfl) rfl (ex_extract rfl rfl) ?_
        refine JL_q (wants_none rfl) rfl (ex_assign rfl) ?_
        refine JL_q (wants_none rfl) rfl (ex_assign rfl) ?_
        refine JL_nil ?_
        refine N_then ?_
        refine J_seq ?_
        refine J_cut' (S' := Unit) (G' := Unit) (fun _ _ => [(1, v1_), (2, v2_), (3, .pointer (some ⟨b1, 0, none⟩)), (8, x20_0), (9, .int .i64 r18.2), (10, .pointer (some ⟨b24, 0, none⟩)), (11, x27), (12, x30_0), (13, x33_0), (14, .int .i64 r31.2)]) (fun _ _ => [.rd v1_ p1, .rd v2_ p2, .rd v0_0 p0.Rules, .bx b1 34 [.int .i64 p0.Symbols, .int .i64 p0.States, v0_0], .od 66 x20_0 r18.1 x20_1, .ow 95 x23 r21.Rules, .bx b24 41 [.int .i64 r21.Symbols, .int .i64 r21.States, x23], .ow 2 x27 r25, .od 24 x30_0 r28 x30_1, .od 66 x33_0 r31.1 x33_1]) ?_ (fun s34 g35 => ?_)
        · refine J_seq ?_
          refine J_region ?_
          refine JL_q (wants_none rfl) rfl (ex_move rfl) ?_
          refine JL_q (wants_none rfl) rfl (ex_move rfl) ?_
          refine JL_bnd fun r36 hr37 => ?_
          refine JL_call (wants_none rfl) rfl Try.call19 rfl (Ca_of0 fun w hh => c_laws_eqConfigS _ w (fun _ hk => hk.elim) _ _ (hh.od0 0 rfl) _ _ (hh.od0 5 rfl) _ hr37) (fun _ => ?_)
          refine JL_q (wants_none rfl) rfl (ex_not rfl) ?_
          refine JL_q (wants_none rfl) rfl (ex_move rfl) ?_
          refine JL_cond (fun h38 => ?_) (fun h38 => ?_)
          · refine JL_passed rfl rfl rfl h38 ?_
            refine JL_passed rfl rfl rfl h38 ?_
            refine JL_passed rfl rfl rfl h38 ?_
            refine JL_q (wants_none rfl) rfl (ex_pick_true rfl h38 rfl) ?_
            refine JL_nil ?_
            refine N_then ?_
            refine J_if_true rfl rfl ?_
            refine J_seq ?_
            refine J_region ?_
            refine JL_q (wants_none rfl) rfl (ex_assign rfl) ?_
            refine JL_nil ?_
            refine N_then ?_
            refine J_ret ?_
            refine N_mid_ret ?_
            refine N_then_ret ?_
            exact N_ret1 rfl (rv_tmp rfl) (fun w hh => ⟨(), rfl, hh.sel [] rfl⟩)
          · refine JL_q (wants_some rfl rfl rfl h38) rfl (ex_move rfl) ?_
            refine JL_q (wants_some rfl rfl rfl h38) rfl (ex_move rfl) ?_
            refine JL_q (wants_some rfl rfl rfl h38) rfl (ex_neq rfl rfl) ?_
            refine JL_q (wants_none rfl) rfl (ex_pick_false rfl h38 rfl) ?_
            refine JL_nil ?_
            refine N_then ?_
            refine J_if rfl (fun h39 => ?_) (fun h39 => ?_)
            · refine J_seq ?_
              refine J_region ?_
              refine JL_q (wants_none rfl) rfl (ex_assign rfl) ?_
              refine JL_nil ?_
              refine N_then ?_
              refine J_ret ?_
              refine N_mid_ret ?_
              refine N_then_ret ?_
              exact N_ret1 rfl (rv_tmp rfl) (fun w hh => ⟨(), rfl, hh.sel [] rfl⟩)
            · refine J_skip ?_
              exact N_meet' () ⟨rfl, rfl, rfl, rfl, rfl, rfl, rfl, rfl, rfl, rfl, trivial⟩ [11, 10, 12, 9, 5, 4, 3, 2, 1, 0] rfl rfl
        · refine N_then ?_
          refine J_seq ?_
          refine J_seq ?_
          refine J_draw [] (by kernel_rfl) ?_
          refine JP_take (i := 0) [0, 1, 2, 3, 4, 5, 6, 7, 8, 9] [] rfl (by kernel_rfl) (by kernel_rfl) (by kernel_rfl) rfl rfl (wants_none rfl) rfl (ex_load_bx_agg 6 ti_41 rfl rfl rfl rfl) ?_
          refine JP_take (i := 1) [0, 1, 2, 3, 4, 5, 6, 7, 8, 9] [] rfl (by kernel_rfl) (by kernel_rfl) (by kernel_rfl) rfl rfl (wants_none rfl) rfl (ex_load_bx_agg 3 ti_34 rfl rfl rfl rfl) ?_
          refine JP_go [0, 1, 2, 3, 4, 5, 6, 7, 8, 9] [] rfl rfl rfl (fun w41 h1_42 hp40 => ?_)
          refine JD_bnd fun r43 hr44 => ?_
          refine JD_one (i := 2) (by kernel_rfl) ?_
          refine JO_call rfl (wants_none rfl) rfl Try.call16 rfl (Ca_self (fun _ => rfl) fun w hh => c_laws_toMachine _ w (fun _ hk => hk.elim) _ _ (GMachine.rdmk (Rd.mk_int _ _ _) (Rd.mk_int _ _ _) (hh.rd0 2 rfl)) _ hr44) (fun x45 => ?_)
          refine JD_bnd fun r46 hr47 => ?_
          refine JD_one (i := 3) (by kernel_rfl) ?_
          refine JO_call rfl (wants_none rfl) rfl Try.call20 rfl (Ca_of0 fun w hh => c_laws_eqMachine _ w (fun _ hk => hk.elim) _ _ (GMachine.rdmk (Rd.mk_int _ _ _) (Rd.mk_int _ _ _) (hh.ow0 6 rfl)) _ _ (GMachine.rdmk (Rd.mk_int _ _ _) (Rd.mk_int _ _ _) (hh.ow0 0 rfl)) _ hr47) (fun _ => ?_)
          refine JD_take (i := 4) hp40 rfl (by kernel_rfl) (by kernel_rfl) (by kernel_rfl) (wants_none rfl) rfl (ex_not rfl) ?_
          refine JD_done (by kernel_rfl) ?_
          refine N_then ?_
          refine J_if rfl (fun h48 => ?_) (fun h48 => ?_)
          · refine J_seq ?_
            refine J_region ?_
            refine JL_q (wants_none rfl) rfl (ex_assign rfl) ?_
            refine JL_nil ?_
            refine N_then ?_
            refine J_ret ?_
            refine N_then_ret ?_
            exact N_ret1 rfl (rv_tmp rfl) (fun w hh => ⟨(), rfl, hh.sel [] rfl⟩)
          · refine J_skip ?_
            refine N_then ?_
            refine J_seq ?_
            refine J_seq ?_
            refine J_region ?_
            refine JL_q (wants_none rfl) rfl (ex_move rfl) ?_
            refine JL_q (wants_none rfl) rfl (ex_move rfl) ?_
            refine JL_bnd fun r49 hr50 => ?_
            refine JL_call (wants_none rfl) rfl Try.call17 rfl (Ca_self (fun _ => rfl) fun w hh => c_laws_toInt64S _ w (fun _ hk => hk.elim) _ _ (hh.rd0 1 rfl) _ hr50) (fun x51 => ?_)
            refine JL_bnd fun r52 hr53 => ?_
            refine JL_call (wants_none rfl) rfl Try.call9 rfl (Ca_of0 fun w hh => c_laws_eqInt64S _ w (fun _ hk => hk.elim) _ _ (hh.ow0 9 rfl) _ _ (hh.ow0 0 rfl) _ hr53) (fun _ => ?_)
            refine JL_q (wants_none rfl) rfl (ex_not rfl) ?_
            refine JL_nil ?_
            refine N_then ?_
            refine J_if rfl (fun h54 => ?_) (fun h54 => ?_)
            · refine J_seq ?_
              refine J_region ?_
              refine JL_q (wants_none rfl) rfl (ex_assign rfl) ?_
              refine JL_nil ?_
              refine N_then ?_
              refine J_ret ?_
              refine N_then_ret ?_
              exact N_ret1 rfl (rv_tmp rfl) (fun w hh => ⟨(), rfl, hh.sel [] rfl⟩)
            · refine J_skip ?_
              refine N_then ?_
              refine J_seq ?_
              refine J_seq ?_
              refine J_region ?_
              refine JL_q (wants_none rfl) rfl (ex_move rfl) ?_
              refine JL_q (wants_none rfl) rfl (ex_move rfl) ?_
              refine JL_bnd fun r55 hr56 => ?_
              refine JL_call (wants_none rfl) rfl Try.call7 rfl (Ca_self (fun _ => rfl) fun w hh => c_laws_toInt64SS _ w (fun _ hk => hk.elim) _ _ (hh.rd0 3 rfl) _ hr56) (fun x57 => ?_)
              obtain ⟨x57_0, x57_1⟩ := x57
              refine JL_bnd fun r58 hr59 => ?_
              refine JL_call (wants_none rfl) rfl Try.call10 rfl (Ca_of0 fun w hh => c_laws_eqInt64SS _ w (fun _ hk => hk.elim) _ _ (hh.od0 11 rfl) _ _ (hh.od0 0 rfl) _ hr59) (fun _ => ?_)
              refine JL_q (wants_none rfl) rfl (ex_not rfl) ?_
              refine JL_nil ?_
              refine N_then ?_
              refine J_if rfl (fun h60 => ?_) (fun h60 => ?_)
              · refine J_seq ?_
                refine J_region ?_
                refine JL_q (wants_none rfl) rfl (ex_assign rfl) ?_
                refine JL_nil ?_
                refine N_then ?_
                refine J_ret ?_
                refine N_then_ret ?_
                exact N_ret1 rfl (rv_tmp rfl) (fun w hh => ⟨(), rfl, hh.sel [] rfl⟩)
              · refine J_skip ?_
                refine N_then ?_
                refine J_seq ?_
                refine J_region ?_
                refine JL_q (wants_none rfl) rfl (ex_assign rfl) ?_
                refine JL_nil ?_
                refine N_then ?_
                refine J_seq ?_
                refine J_region ?_
                refine JL_q (wants_none rfl) rfl (ex_load_bx_agg 9 ti_41 rfl rfl rfl rfl) ?_
                refine JL_q (wants_none rfl) rfl (ex_move rfl) ?_
                refine JL_inline (wants_none rfl) rfl Try.call21 rfl Try.func21 rfl Try.ntmps21 rfl rfl (fun K_ hK61 => ?_)
                refine J_seq ?_
                refine J_region ?_
                refine JL_st (wants_none rfl) rfl (st_box' rfl (fun w hh => (cv_aggs ⟨cv_int, cv_int, (hh.cv_ow 8 rfl), trivial⟩))) (fun b62 => ?_)
                refine JL_q (wants_none rfl) rfl (ex_assign rfl) ?_
                refine JL_nil ?_
                refine N_then ?_
                refine J_seq ?_
                refine J_region ?_
                refine JL_q (wants_none rfl) rfl (ex_fieldAddr fi_41_2 rfl rfl) ?_
                refine JL_q (wants_none rfl) rfl (ex_load_bx 0 ti_39 rfl rfl rfl) ?_
                refine JL_q (wants_none rfl) rfl (ex_move rfl) ?_
                refine JL_bnd fun r63 hr64 => ?_
                refine JL_ctx (fun w hh => hh.tokf 9 rfl rfl) ?_
                refine JL_mark 0 [1, 2, 3, 4, 8, 9, 11, 12, 13, 14] mk_laws_markRuleS (wants_none rfl) rfl Try.call50 rfl rfl rfl rfl ((((SH.start hA).start_rd rfl hp0_0).start_rd rfl hp1).start_rd rfl hp2) rfl hr64 ?_
                refine JL_q (wants_none rfl) rfl (ex_assign rfl) ?_
                refine JL_nil ?_
                refine N_then ?_
                refine J_seq ?_
                refine J_region ?_
                refine JL_q (wants_none rfl) rfl (ex_move rfl) ?_
                refine JL_q (wants_none rfl) rfl (ex_assign rfl) ?_
                refine JL_nil ?_
                refine N_then ?_
                refine J_ret ?_
                refine N_inl1 hK61 rfl (rv_tmp rfl) ?_
                refine JL_q (wants_none rfl) rfl (ex_assign rfl) ?_
                refine JL_nil ?_
                refine N_then ?_
                refine J_seq ?_
                refine J_region ?_
                refine JL_q (wants_none rfl) rfl (ex_move rfl) ?_
                refine JL_q (wants_none rfl) rfl (ex_move rfl) ?_
                refine JL_bnd fun r65 hr66 => ?_
                refine JL_ctx (fun w hh => hh.tokf 12 rfl rfl) ?_
                refine JL_mark 0 [2, 6, 7, 8, 9, 10, 11, 12, 14, 15] mk_laws_markInt64S (wants_none rfl) rfl Try.call12 rfl rfl rfl rfl ((((SH.start hA).start_rd rfl hp0_0).start_rd rfl hp1).start_rd rfl hp2) rfl hr66 ?_
                refine JL_ctx (fun w hh => hh.tkn_rd 5 rfl) ?_
                refine JL_q (wants_none rfl) rfl (ex_assign rfl) ?_
                refine JL_nil ?_
                refine N_then ?_
                refine J_seq ?_
                refine J_region ?_
                refine JL_q (wants_none rfl) rfl (ex_move rfl) ?_
                refine JL_q (wants_none rfl) rfl (ex_move rfl) ?_
                refine JL_bnd fun r67 hr68 => ?_
                refine JL_ctx (fun w hh => hh.tok 14 rfl) ?_
                refine JL_mark 0 [3, 7, 8, 9, 10, 11, 12, 13, 14, 16] mk_laws_markInt64SS (wants_none rfl) rfl Try.call11 rfl rfl rfl rfl ((((SH.start hA).start_rd rfl hp0_0).start_rd rfl hp1).start_rd rfl hp2) rfl hr68 ?_
                refine JL_ctx (fun w hh => hh.tkn_rd 6 rfl) ?_
                refine JL_ctx (fun w hh => hh.tkn_rd 6 rfl) ?_
                refine JL_q (wants_none rfl) rfl (ex_assign rfl) ?_
                refine JL_nil ?_
                refine N_then ?_
                refine J_seq ?_
                refine J_cut' (S' := Unit) (G' := Unit) (fun _ _ => [(1, v1_), (2, v2_), (3, .pointer (some ⟨b1, 0, none⟩)), (8, x20_0), (9, .int .i64 r18.2), (13, x33_0)]) (fun _ _ => [.rd v1_ p1, .rd v2_ p2, .rd v0_0 p0.Rules, .bx b1 34 [.int .i64 p0.Symbols, .int .i64 p0.States, v0_0], .od 66 x20_0 r18.1 x20_1, .od 66 x33_0 r31.1 x33_1]) ?_ (fun s69 g70 => ?_)
                · refine J_seq ?_
                  refine J_region ?_
                  refine JL_q (wants_none rfl) rfl (ex_move rfl) ?_
                  refine JL_q (wants_none rfl) rfl (ex_lss rfl rfl) ?_
                  refine JL_q (wants_none rfl) rfl (ex_move rfl) ?_
                  refine JL_cond (fun h71 => ?_) (fun h71 => ?_)
                  · refine JL_passed rfl rfl rfl h71 ?_
                    refine JL_passed rfl rfl rfl h71 ?_
                    refine JL_passed rfl rfl rfl h71 ?_
                    refine JL_passed rfl rfl rfl h71 ?_
                    refine JL_q (wants_none rfl) rfl (ex_pick_true rfl h71 rfl) ?_
                    refine JL_q (wants_none rfl) rfl (ex_move rfl) ?_
                    refine JL_passed rfl rfl rfl rfl ?_
                    refine JL_passed rfl rfl rfl rfl ?_
                    refine JL_passed rfl rfl rfl rfl ?_
                    refine JL_q (wants_none rfl) rfl (ex_pick_true rfl rfl rfl) ?_
                    refine JL_nil ?_
                    refine N_then ?_
                    refine J_if_true rfl rfl ?_
                    refine J_seq ?_
                    refine J_region ?_
                    refine JL_q (wants_none rfl) rfl (ex_assign rfl) ?_
                    refine JL_nil ?_
                    refine N_then ?_
                    refine J_ret ?_
                    refine N_mid_ret ?_
                    refine N_then_ret ?_
                    exact N_ret1 rfl (rv_tmp rfl) (fun w hh => ⟨(), rfl, hh.sel [] rfl⟩)
                  · refine JL_q (wants_some rfl rfl rfl h71) rfl (ex_move rfl) ?_
                    refine JL_q (wants_some rfl rfl rfl h71) rfl (ex_move rfl) ?_
                    refine JL_bnd fun r72 hr73 => ?_
                    refine JL_call (wants_some rfl rfl rfl h71) rfl Try.call19 rfl (Ca_of0 fun w hh => c_laws_eqConfigS _ w (fun _ hk => hk.elim) _ _ (hh.od0 16 rfl) _ _ (hh.od0 14 rfl) _ hr73) (fun _ => ?_)
                    refine JL_q (wants_some rfl rfl rfl h71) rfl (ex_not rfl) ?_
                    refine JL_q (wants_none rfl) rfl (ex_pick_false rfl h71 rfl) ?_
                    refine JL_q (wants_none rfl) rfl (ex_move rfl) ?_
                    refine JL_cond (fun h74 => ?_) (fun h74 => ?_)
                    · refine JL_passed rfl rfl rfl h74 ?_
                      refine JL_passed rfl rfl rfl h74 ?_
                      refine JL_passed rfl rfl rfl h74 ?_
                      refine JL_q (wants_none rfl) rfl (ex_pick_true rfl h74 rfl) ?_
                      refine JL_nil ?_
                      refine N_then ?_
                      refine J_if_true rfl rfl ?_
                      refine J_seq ?_
                      refine J_region ?_
                      refine JL_q (wants_none rfl) rfl (ex_assign rfl) ?_
                      refine JL_nil ?_
                      refine N_then ?_
                      refine J_ret ?_
                      refine N_mid_ret ?_
                      refine N_then_ret ?_
                      exact N_ret1 rfl (rv_tmp rfl) (fun w hh => ⟨(), rfl, hh.sel [] rfl⟩)
                    · refine JL_q (wants_some rfl rfl rfl h74) rfl (ex_move rfl) ?_
                      refine JL_q (wants_some rfl rfl rfl h74) rfl (ex_move rfl) ?_
                      refine JL_q (wants_some rfl rfl rfl h74) rfl (ex_neq rfl rfl) ?_
                      refine JL_q (wants_none rfl) rfl (ex_pick_false rfl h74 rfl) ?_
                      refine JL_nil ?_
                      refine N_then ?_
                      refine J_if rfl (fun h75 => ?_) (fun h75 => ?_)
                      · refine J_seq ?_
                        refine J_region ?_
                        refine JL_q (wants_none rfl) rfl (ex_assign rfl) ?_
                        refine JL_nil ?_
                        refine N_then ?_
                        refine J_ret ?_
                        refine N_mid_ret ?_
                        refine N_then_ret ?_
                        exact N_ret1 rfl (rv_tmp rfl) (fun w hh => ⟨(), rfl, hh.sel [] rfl⟩)
                      · refine J_skip ?_
                        exact N_meet' () ⟨rfl, rfl, rfl, rfl, rfl, rfl, trivial⟩ [5, 4, 6, 13, 14, 16] rfl rfl
                · refine N_then ?_
                  refine J_seq ?_
                  refine J_region ?_
                  refine JL_q (wants_none rfl) rfl (ex_assign rfl) ?_
                  refine JL_nil ?_
                  refine N_then ?_
                  refine J_seq ?_
                  refine J_region ?_
                  refine JL_q (wants_none rfl) rfl (ex_move rfl) ?_
                  refine JL_q (wants_none rfl) rfl (ex_move rfl) ?_
                  refine JL_bnd fun r76 hr77 => ?_
                  refine JL_ctx (fun w hh => hh.tok 5 rfl) ?_
                  refine JL_mark 0 [4, 5] mk_laws_markConfigS (wants_none rfl) rfl Try.call22 rfl rfl rfl rfl ((((SH.start hA).start_rd rfl hp0_0).start_rd rfl hp1).start_rd rfl hp2) rfl hr77 ?_
                  refine JL_q (wants_none rfl) rfl (ex_assign rfl) ?_
                  refine JL_nil ?_
                  refine N_then ?_
                  refine J_seq ?_
                  refine J_region ?_
                  refine JL_q (wants_none rfl) rfl (ex_assign rfl) ?_
                  refine JL_nil ?_
                  refine N_then ?_
                  refine J_seq ?_
                  refine J_region ?_
                  refine JL_q (wants_none rfl) rfl (ex_move rfl) ?_
                  refine JL_q (wants_none rfl) rfl (ex_move rfl) ?_
                  refine JL_bnd fun r78 hr79 => ?_
                  refine JL_call (wants_none rfl) rfl Try.call23 rfl (Ca_of0 fun w hh => c_laws_heldConfigS _ w (fun _ hk => hk.elim) _ _ (hh.rd0 0 rfl) _ _ hr79) (fun _ => ?_)
                  refine JL_q (wants_none rfl) rfl (ex_assign rfl) ?_
                  refine JL_nil ?_
                  refine N_then ?_
                  refine J_seq ?_
                  refine J_seq ?_
                  refine J_region ?_
                  refine JL_q (wants_none rfl) rfl (ex_move rfl) ?_
                  refine JL_q (wants_none rfl) rfl (ex_lss rfl rfl) ?_
                  refine JL_nil ?_
                  refine N_then ?_
                  refine J_if rfl (fun h80 => ?_) (fun h80 => ?_)
                  · refine J_seq ?_
                    refine J_region ?_
                    refine JL_q (wants_none rfl) rfl (ex_assign rfl) ?_
                    refine JL_nil ?_
                    refine N_then ?_
                    refine J_ret ?_
                    refine N_then_ret ?_
                    exact N_ret1 rfl (rv_tmp rfl) (fun w hh => ⟨(), rfl, hh.sel [] rfl⟩)
                  · refine J_skip ?_
                    refine N_then ?_
                    refine J_seq ?_
                    refine J_seq ?_
                    refine J_region ?_
                    refine JL_q (wants_none rfl) rfl (ex_move rfl) ?_
                    refine JL_q (wants_none rfl) rfl (ex_move rfl) ?_
                    refine JL_q (wants_none rfl) rfl (ex_neq rfl rfl) ?_
                    refine JL_nil ?_
                    refine N_then ?_
                    refine J_if rfl (fun h81 => ?_) (fun h81 => ?_)
                    · refine J_seq ?_
                      refine J_region ?_
                      refine JL_q (wants_none rfl) rfl (ex_assign rfl) ?_
                      refine JL_nil ?_
                      refine N_then ?_
                      refine J_ret ?_
                      refine N_then_ret ?_
                      exact N_ret1 rfl (rv_tmp rfl) (fun w hh => ⟨(), rfl, hh.sel [] rfl⟩)
                    · refine J_skip ?_
                      refine N_then ?_
                      refine J_seq ?_
                      refine J_region ?_
                      refine JL_q (wants_none rfl) rfl (ex_load_bx_agg 5 ti_34 rfl rfl rfl rfl) ?_
                      refine JL_bnd fun r82 hr83 => ?_
                      refine JL_call (wants_none rfl) rfl Try.call16 rfl (Ca_self (fun _ => rfl) fun w hh => c_laws_toMachine _ w (fun _ hk => hk.elim) _ _ (GMachine.rdmk (Rd.mk_int _ _ _) (Rd.mk_int _ _ _) (hh.rd0 4 rfl)) _ hr83) (fun x84 => ?_)
                      refine JL_q (wants_none rfl) rfl (ex_move rfl) ?_
                      refine JL_bnd fun r85 hr86 => ?_
                      refine JL_call (wants_none rfl) rfl Try.call17 rfl (Ca_self (fun _ => rfl) fun w hh => c_laws_toInt64S _ w (fun _ hk => hk.elim) _ _ (hh.rd0 4 rfl) _ hr86) (fun x87 => ?_)
                      refine JL_q (wants_none rfl) rfl (ex_move rfl) ?_
                      refine JL_bnd fun r88 hr89 => ?_
                      refine JL_call (wants_none rfl) rfl Try.call7 rfl (Ca_self (fun _ => rfl) fun w hh => c_laws_toInt64SS _ w (fun _ hk => hk.elim) _ _ (hh.rd0 4 rfl) _ hr89) (fun x90 => ?_)
                      obtain ⟨x90_0, x90_1⟩ := x90
                      refine JL_bnd fun r91 hr92 => ?_
                      refine JL_call (wants_none rfl) rfl Try.call18 rfl (Ca_self (fun _ => rfl) fun w hh => c_impl_RunOfTiling _ w (fun _ hk => hk.elim) _ _ (GMachine.rdmk (Rd.mk_int _ _ _) (Rd.mk_int _ _ _) (hh.ow0 2 rfl)) _ _ (hh.ow0 1 rfl) _ _ (hh.od0 0 rfl) _ hr92) (fun x93 => ?_)
                      obtain ⟨x93_0, x93_1⟩ := x93
                      refine JL_q (wants_none rfl) rfl (ex_move rfl) ?_
                      refine JL_q (wants_none rfl) rfl (ex_extract rfl rfl) ?_
                      refine JL_q (wants_none rfl) rfl (ex_extract rfl rfl) ?_
                      refine JL_q (wants_none rfl) rfl (ex_assign rfl) ?_
                      refine JL_q (wants_none rfl) rfl (ex_assign rfl) ?_
                      refine JL_nil ?_
                      refine N_then ?_
                      refine J_seq ?_
                      refine J_seq ?_
                      refine J_region ?_
                      refine JL_q (wants_none rfl) rfl (ex_move rfl) ?_
                      refine JL_q (wants_none rfl) rfl (ex_move rfl) ?_
                      refine JL_bnd fun r94 hr95 => ?_
                      refine JL_call (wants_none rfl) rfl Try.call19 rfl (Ca_of0 fun w hh => c_laws_eqConfigS _ w (fun _ hk => hk.elim) _ _ (hh.od0 0 rfl) _ _ (hh.od0 10 rfl) _ hr95) (fun _ => ?_)
                      refine JL_q (wants_none rfl) rfl (ex_not rfl) ?_
                      refine JL_q (wants_none rfl) rfl (ex_move rfl) ?_
                      refine JL_cond (fun h96 => ?_) (fun h96 => ?_)
                      · refine JL_passed rfl rfl rfl h96 ?_
                        refine JL_passed rfl rfl rfl h96 ?_
                        refine JL_passed rfl rfl rfl h96 ?_
                        refine JL_q (wants_none rfl) rfl (ex_pick_true rfl h96 rfl) ?_
                        refine JL_nil ?_
                        refine N_then ?_
                        refine J_if_true rfl rfl ?_
                        refine J_seq ?_
                        refine J_region ?_
                        refine JL_q (wants_none rfl) rfl (ex_assign rfl) ?_
                        refine JL_nil ?_
                        refine N_then ?_
                        refine J_ret ?_
                        refine N_then_ret ?_
                        exact N_ret1 rfl (rv_tmp rfl) (fun w hh => ⟨(), rfl, hh.sel [] rfl⟩)
                      · refine JL_q (wants_some rfl rfl rfl h96) rfl (ex_move rfl) ?_
                        refine JL_q (wants_some rfl rfl rfl h96) rfl (ex_move rfl) ?_
                        refine JL_q (wants_some rfl rfl rfl h96) rfl (ex_neq rfl rfl) ?_
                        refine JL_q (wants_none rfl) rfl (ex_pick_false rfl h96 rfl) ?_
                        refine JL_nil ?_
                        refine N_then ?_
                        refine J_if rfl (fun h97 => ?_) (fun h97 => ?_)
                        · refine J_seq ?_
                          refine J_region ?_
                          refine JL_q (wants_none rfl) rfl (ex_assign rfl) ?_
                          refine JL_nil ?_
                          refine N_then ?_
                          refine J_ret ?_
                          refine N_then_ret ?_
                          exact N_ret1 rfl (rv_tmp rfl) (fun w hh => ⟨(), rfl, hh.sel [] rfl⟩)
                        · refine J_skip ?_
                          refine N_then ?_
                          refine J_seq ?_
                          refine J_region ?_
                          refine JL_q (wants_none rfl) rfl (ex_assign rfl) ?_
                          refine JL_nil ?_
                          refine N_then ?_
                          refine J_seq ?_
                          refine J_region ?_
                          refine JL_q (wants_none rfl) rfl (ex_move rfl) ?_
                          refine JL_q (wants_none rfl) rfl (ex_move rfl) ?_
                          refine JL_bnd fun r98 hr99 => ?_
                          refine JL_call (wants_none rfl) rfl Try.call23 rfl (Ca_of0 fun w hh => c_laws_heldConfigS _ w (fun _ hk => hk.elim) _ _ (hh.rd0 4 rfl) _ _ hr99) (fun _ => ?_)
                          refine JL_q (wants_none rfl) rfl (ex_assign rfl) ?_
                          refine JL_nil ?_
                          refine N_then ?_
                          refine J_seq ?_
                          refine J_seq ?_
                          refine J_region ?_
                          refine JL_q (wants_none rfl) rfl (ex_move rfl) ?_
                          refine JL_q (wants_none rfl) rfl (ex_lss rfl rfl) ?_
                          refine JL_nil ?_
                          refine N_then ?_
                          refine J_if rfl (fun h100 => ?_) (fun h100 => ?_)
                          · refine J_seq ?_
                            refine J_region ?_
                            refine JL_q (wants_none rfl) rfl (ex_assign rfl) ?_
                            refine JL_nil ?_
                            refine N_then ?_
                            refine J_ret ?_
                            refine N_then_ret ?_
                            exact N_ret1 rfl (rv_tmp rfl) (fun w hh => ⟨(), rfl, hh.sel [] rfl⟩)
                          · refine J_skip ?_
                            refine N_then ?_
                            refine J_seq ?_
                            refine J_seq ?_
                            refine J_region ?_
                            refine JL_q (wants_none rfl) rfl (ex_move rfl) ?_
                            refine JL_q (wants_none rfl) rfl (ex_move rfl) ?_
                            refine JL_q (wants_none rfl) rfl (ex_neq rfl rfl) ?_
                            refine JL_nil ?_
                            refine N_then ?_
                            refine J_if rfl (fun h101 => ?_) (fun h101 => ?_)
                            · refine J_seq ?_
                              refine J_region ?_
                              refine JL_q (wants_none rfl) rfl (ex_assign rfl) ?_
                              refine JL_nil ?_
                              refine N_then ?_
                              refine J_ret ?_
                              refine N_then_ret ?_
                              exact N_ret1 rfl (rv_tmp rfl) (fun w hh => ⟨(), rfl, hh.sel [] rfl⟩)
                            · refine J_skip ?_
                              refine N_then ?_
                              refine J_seq ?_
                              refine J_region ?_
                              refine JL_q (wants_none rfl) rfl (ex_assign rfl) ?_
                              refine JL_nil ?_
                              refine N_then ?_
                              refine J_ret ?_
                              exact N_ret1 rfl (rv_tmp rfl) (fun w hh => ⟨(), rfl, hh.sel [] rfl⟩)

end Go.Proofs.Ytlbbchonoomafaa
