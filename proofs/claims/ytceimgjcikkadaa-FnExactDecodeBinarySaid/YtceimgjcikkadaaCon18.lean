/-
  Each function of the program computes what its plain function says: printed by program. No condition.
-/
import Derived.Test.YtceimgjcikkadaaFn
import Derived.Test.YtceimgjcikkadaaInf
import Derived.Test.YtceimgjcikkadaaCon1
import Derived.Test.YtceimgjcikkadaaCon2
import Derived.Test.YtceimgjcikkadaaCon3
import Derived.Test.YtceimgjcikkadaaCon4
import Derived.Test.YtceimgjcikkadaaCon8
import Derived.Test.YtceimgjcikkadaaCon17
namespace Go.Proofs.Ytceimgjcikkadaa
open Go Go.Tc Go.Fn
set_option linter.unusedVariables false

set_option maxHeartbeats 40000000 in
theorem c_impl_DecodeBinary (A : Nat → Prop) (w : World) (hA : ∀ k, A k → k < w.heap.size) (v0_ : Value) (p0 : GMachine) (hp0 : Rd A w v0_ p0) (v1_ : Value) (p1 : GConfig) (hp1 : Rd A w v1_ p1) (r : GConfig × Int) (hr : F_impl_DecodeBinary p0 p1 = some r) :
    Con Try.prog 27 [v0_, v1_] A w (fun x_ : Value × List Nat × Value => .tuple #[.agg #[.int .i64 r.1.State, x_.1, x_.2.2], .int .i64 r.2]) (fun x_ => [.tkn x_.1 r.1.Left x_.2.1, .ow 2 x_.2.2 r.1.Right]) := by
  obtain ⟨v0_0, rfl, hp0_0⟩ := GMachine.open hp0
  obtain ⟨v1_0, v1_1, rfl, hp1_0, hp1_1⟩ := GConfig.open hp1
  refine Con_of (v := fun (r : GConfig × Int) (x_ : Value × List Nat × Value) => .tuple #[.agg #[.int .i64 r.1.State, x_.1, x_.2.2], .int .i64 r.2]) (fs := fun r x_ => [.tkn x_.1 r.1.Left x_.2.1, .ow 2 x_.2.2 r.1.Right]) Try.func27 rfl Try.ntmps27 rfl ((((SH.start hA).start_rd rfl hp0_0).start_rd rfl hp1_0).start_rd rfl hp1_1) rfl ?_ hr
  unfold F_impl_DecodeBinary
  refine J_seq ?_
  refine J_region ?_
  refine JL_st (wants_none rfl) rfl (st_box' rfl (fun w hh => (cv_aggs ⟨cv_int, cv_int, (hh.cv 2 rfl), trivial⟩))) (fun b1 => ?_)
  refine JL_st (wants_none rfl) rfl (st_box' rfl (fun w hh => (cv_aggs ⟨cv_int, (hh.cv 2 rfl), (hh.cv 1 rfl), trivial⟩))) (fun b2 => ?_)
  refine JL_st (wants_none rfl) rfl (st_alloc zi_39 rfl) (fun b3 => ?_)
  refine JL_q (wants_none rfl) rfl (ex_assign rfl) ?_
  refine JL_nil ?_
  refine N_then ?_
  refine J_seq ?_
  refine J_seq ?_
  refine J_region ?_
  refine JL_q (wants_none rfl) rfl (ex_load_bx_agg 2 ti_28 rfl rfl rfl rfl) ?_
  refine JL_bnd fun r4 hr5 => ?_
  refine JL_call (wants_none rfl) rfl Try.call32 rfl (Ca_of0 fun w hh => c_impl_ValidMachine _ w (fun _ hk => hk.elim) _ _ (GMachine.rdmk (Rd.mk_int _ _ _) (Rd.mk_int _ _ _) (hh.rd0 5 rfl)) _ hr5) (fun _ => ?_)
  refine JL_q (wants_none rfl) rfl (ex_not rfl) ?_
  refine JL_nil ?_
  refine N_then ?_
  refine J_if rfl (fun h6 => ?_) (fun h6 => ?_)
  · refine J_seq ?_
    refine J_region ?_
    refine JL_q (wants_none rfl) rfl (ex_build si_39 rfl .nil (fun w hh => trivial)) ?_
    refine JL_sk (wants_none rfl) (sk_store_bx' 0 ti_39 rfl rfl (fun w hh => (cv_aggs ⟨cv_int, cv_slice, cv_slice, trivial⟩)) rfl rfl rfl rfl) ?_
    refine JL_q (wants_none rfl) rfl (ex_assign rfl) ?_
    refine JL_nil ?_
    refine N_then ?_
    refine J_ret ?_
    refine N_then_ret ?_
    refine N_ctx (fun w hh => SH.ow_nil (α := Int) 2 hh) ?_
    refine N_ctx (fun w hh => hh.tokf 0 rfl rfl) ?_
    refine N_ctx (fun w hh => SH.ow_nil (α := Int) 2 hh) ?_
    exact N_ret2 rfl (rv_cell 3 rfl rfl ti_39 rfl) (rv_tmp rfl) (fun w hh => ⟨((.slice none 0 0 : Value), ((.slice none 0 0 : Value).ownBlock.toList ++ []), (.slice none 0 0 : Value)), rfl, hh.sel [1, 0] rfl⟩)
  · refine J_skip ?_
    refine N_then ?_
    refine J_seq ?_
    refine J_region ?_
    refine JL_q (wants_none rfl) rfl (ex_load_bx_agg 2 ti_28 rfl rfl rfl rfl) ?_
    refine JL_inline (wants_none rfl) rfl Try.call34 rfl Try.func34 rfl Try.ntmps34 rfl rfl (fun K_ hK7 => ?_)
    refine J_seq ?_
    refine J_region ?_
    refine JL_st (wants_none rfl) rfl (st_box' rfl (fun w hh => (cv_aggs ⟨cv_int, cv_int, (hh.cv 5 rfl), trivial⟩))) (fun b8 => ?_)
    refine JL_q (wants_none rfl) rfl (ex_assign rfl) ?_
    refine JL_q (wants_none rfl) rfl (ex_assign rfl) ?_
    refine JL_nil ?_
    refine N_then ?_
    refine J_seq ?_
    refine J_region ?_
    refine JL_q (wants_none rfl) rfl (ex_load_bx_agg 0 ti_28 rfl rfl rfl rfl) ?_
    refine JL_bnd fun r9 hr10 => ?_
    refine JL_call (wants_none rfl) rfl Try.call55 rfl (Ca_of0 fun w hh => c_impl_bitsOf _ w (fun _ hk => hk.elim) _ _ (GMachine.rdmk (Rd.mk_int _ _ _) (Rd.mk_int _ _ _) (hh.rd0 6 rfl)) _ hr10) (fun _ => ?_)
    refine JL_st (wants_none rfl) rfl (st_alloc zi_2 rfl) (fun b11 => ?_)
    refine JL_sk (wants_none rfl) (sk_store_bx' 0 ti_2 rfl rfl (fun w hh => cv_int) rfl rfl rfl rfl) ?_
    refine JL_nil ?_
    refine N_then ?_
    refine J_seq ?_
    refine J_region ?_
    refine JL_bnd fun r12 hr13 => ?_
    refine JL_call (wants_none rfl) rfl Try.call57 rfl (Ca_of0 fun w hh => c_impl_startOf _ w (fun _ hk => hk.elim) _ _ hr13) (fun _ => ?_)
    refine JL_q (wants_none rfl) rfl (ex_makeFunc rfl) ?_
    refine JL_inline (wants_none rfl) rfl Try.call74 rfl Try.func74 rfl Try.ntmps74 rfl rfl (fun K_ hK14 => ?_)
    refine J_seq ?_
    refine J_region ?_
    refine JL_st (wants_none rfl) rfl (st_box' rfl (fun w hh => (cv_aggs ⟨cv_int, cv_int, cv_int, cv_int, trivial⟩))) (fun b15 => ?_)
    refine JL_q (wants_none rfl) rfl (ex_assign rfl) ?_
    refine JL_q (wants_none rfl) rfl (ex_assign rfl) ?_
    refine JL_nil ?_
    refine N_then ?_
    refine J_seq ?_
    refine J_region ?_
    refine JL_q (wants_none rfl) rfl (ex_move rfl) ?_
    refine JL_q (wants_none rfl) rfl (ex_build si_28 rfl (.cons fi_28_0 rfl rfl .nil) (fun w hh => ⟨cv_int, trivial⟩)) ?_
    refine JL_st (wants_none rfl) rfl (st_makeMap (κ := GbitPlace) (ν := Int) (enc := GbitPlace.enc) (venc := (Value.int .i64))) (fun b16 => ?_)
    refine JL_q (wants_none rfl) rfl (ex_buildN [(0, .agg #[.int .i64 2, .int .i64 0, .slice none 0 0], [.int .i64 2, .int .i64 0, .slice none 0 0]), (2, .map (some b16), [.map (some b16)])] si_92 rfl (.cons fi_92_0 rfl rfl rfl (.cons fi_92_2 rfl rfl rfl .nil)) (fun w hh => ⟨(cv_aggs ⟨cv_int, cv_int, cv_slice, trivial⟩), cv_map, trivial⟩)) ?_
    refine JL_st (wants_none rfl) rfl (st_box' rfl (fun w hh => (cv_aggs ⟨cv_int, cv_int, cv_slice, cv_slice, cv_map, trivial⟩))) (fun b17 => ?_)
    refine JL_q (wants_none rfl) rfl (ex_assign rfl) ?_
    refine JL_nil ?_
    refine N_then ?_
    refine J_seq ?_
    refine J_region ?_
    refine JL_q (wants_none rfl) rfl (ex_move rfl) ?_
    refine JL_q (wants_none rfl) rfl (ex_load_bx_agg 2 ti_60 rfl rfl rfl rfl) ?_
    refine JL_inline (wants_none rfl) rfl Try.call96 rfl Try.func96 rfl Try.ntmps96 rfl rfl (fun K_ hK18 => ?_)
    refine J_seq ?_
    refine J_region ?_
    refine JL_st (wants_none rfl) rfl (st_box' rfl (fun w hh => (cv_aggs ⟨cv_int, cv_int, cv_int, cv_int, trivial⟩))) (fun b19 => ?_)
    refine JL_q (wants_none rfl) rfl (ex_assign rfl) ?_
    refine JL_nil ?_
    refine N_then ?_
    refine J_seq ?_
    refine J_draw [] (by kernel_rfl) ?_
    refine JP_take (i := 0) [0, 1, 2, 3, 4, 5, 6, 7, 8, 9, 10, 11] [] rfl (by kernel_rfl) (by kernel_rfl) (by kernel_rfl) rfl rfl (wants_none rfl) rfl (ex_move rfl) ?_
    refine JP_take (i := 1) [0, 1, 2, 3, 4, 5, 6, 7, 8, 9, 10, 11] [] rfl (by kernel_rfl) (by kernel_rfl) (by kernel_rfl) rfl rfl (wants_none rfl) rfl (ex_nilCheck rfl) ?_
    refine JP_take (i := 2) [0, 1, 2, 3, 4, 5, 6, 7, 8, 9, 10, 11] [] rfl (by kernel_rfl) (by kernel_rfl) (by kernel_rfl) rfl rfl (wants_none rfl) rfl (ex_fieldAddr fi_92_2 rfl rfl) ?_
    refine JP_take (i := 3) [0, 1, 2, 3, 4, 5, 6, 7, 8, 9, 10, 11] [] rfl (by kernel_rfl) (by kernel_rfl) (by kernel_rfl) rfl rfl (wants_none rfl) rfl (ex_load_bx 1 ti_90 rfl rfl rfl) ?_
    refine JP_take (i := 4) [0, 1, 2, 3, 4, 5, 6, 7, 8, 9, 10, 11] [] rfl (by kernel_rfl) (by kernel_rfl) (by kernel_rfl) rfl rfl (wants_none rfl) rfl (ex_load_bx_agg 0 ti_60 rfl rfl rfl rfl) ?_
    refine JP_take (i := 5) [0, 1, 2, 3, 4, 5, 6, 7, 8, 9, 10, 11] [] rfl (by kernel_rfl) (by kernel_rfl) (by kernel_rfl) rfl rfl (wants_none rfl) rfl (ex_lookup_ok (x := r12) (z := 0) 2 key_60 Try.underlying90 zi_2 rfl rfl rfl rfl rfl) ?_
    refine JP_take (i := 6) [0, 1, 2, 3, 4, 5, 6, 7, 8, 9, 10, 11] [] rfl (by kernel_rfl) (by kernel_rfl) (by kernel_rfl) rfl rfl (wants_none rfl) rfl (ex_move rfl) ?_
    refine JP_take (i := 7) [0, 1, 2, 3, 4, 5, 6, 7, 8, 9, 10, 11] [] rfl (by kernel_rfl) (by kernel_rfl) (by kernel_rfl) rfl rfl (wants_none rfl) rfl (ex_extract rfl rfl) ?_
    refine JP_take (i := 8) [0, 1, 2, 3, 4, 5, 6, 7, 8, 9, 10, 11] [] rfl (by kernel_rfl) (by kernel_rfl) (by kernel_rfl) rfl rfl (wants_none rfl) rfl (ex_extract rfl rfl) ?_
    refine JP_take (i := 9) [0, 1, 2, 3, 4, 5, 6, 7, 8, 9, 10, 11] [] rfl (by kernel_rfl) (by kernel_rfl) (by kernel_rfl) rfl rfl (wants_none rfl) rfl (ex_assign rfl) ?_
    refine JP_take (i := 10) [0, 1, 2, 3, 4, 5, 6, 7, 8, 9, 10, 11] [] rfl (by kernel_rfl) (by kernel_rfl) (by kernel_rfl) rfl rfl (wants_none rfl) rfl (ex_assign rfl) ?_
    refine JP_go [] [] rfl rfl rfl (fun _ _ _ => ?_)
    refine JD_done (by kernel_rfl) ?_
    refine N_then ?_
    refine J_seq ?_
    refine J_cut' (S' := Int × (List GbitPlace) × List (GbitPlace × Int)) (G' := Value) (fun s20 g21 => [(5, .int .i64 s20.1)]) (fun s20 g21 => [.rd v0_0 p0.Rules, .bx b1 28 [.int .i64 p0.Symbols, .int .i64 p0.States, v0_0], .rd v1_0 p1.Left, .rd v1_1 p1.Right, .bx b2 39 [.int .i64 p1.State, v1_0, v1_1], .bx b3 39 [.int .i64 0, .slice none 0 0, .slice none 0 0], .ow 60 g21 s20.2.1, mpf GbitPlace.enc (Value.int .i64) b16 s20.2.2, .bx b17 92 [.int .i64 2, .int .i64 0, .slice none 0 0, g21, .map (some b16)], .bx b8 28 [.int .i64 p0.Symbols, .int .i64 p0.States, v0_0], .bx b11 2 [.int .i64 r9]]) ?_ (fun s20 g21 => ?_)
    · refine J_seq ?_
      refine J_region ?_
      refine JL_q (wants_none rfl) rfl (ex_move rfl) ?_
      refine JL_q (wants_none rfl) rfl (ex_not rfl) ?_
      refine JL_nil ?_
      refine N_then ?_
      refine J_if rfl (fun h22 => ?_) (fun h22 => ?_)
      · refine J_seq ?_
        refine J_region ?_
        refine JL_q (wants_none rfl) rfl (ex_move rfl) ?_
        refine JL_q (wants_none rfl) rfl (ex_nilCheck rfl) ?_
        refine JL_q (wants_none rfl) rfl (ex_fieldAddr fi_92_1 rfl rfl) ?_
        refine JL_q (wants_none rfl) rfl (ex_load_bx 1 ti_89 rfl rfl rfl) ?_
        refine JL_bnd fun r23 hr24 => ?_
        refine JL_call (wants_none rfl) rfl Try.call98 rfl (Ca_of0 fun w hh => c_impl_size_impl_bitPlace _ w (fun _ hk => hk.elim) _ _ rdNil _ hr24) (fun _ => ?_)
        refine JL_q (wants_none rfl) rfl (ex_assign rfl) ?_
        refine JL_nil ?_
        refine N_then ?_
        refine J_seq ?_
        refine J_draw [2] (by kernel_rfl) ?_
        refine JP_take (i := 0) [0, 1, 3, 4, 5, 6, 7, 8, 9, 10, 11] [2] rfl (by kernel_rfl) (by kernel_rfl) (by kernel_rfl) rfl rfl (wants_none rfl) rfl (ex_move rfl) ?_
        refine JP_take (i := 1) [0, 1, 3, 4, 5, 6, 7, 8, 9, 10, 11] [2] rfl (by kernel_rfl) (by kernel_rfl) (by kernel_rfl) rfl rfl (wants_none rfl) rfl (ex_nilCheck rfl) ?_
        refine JP_take (i := 2) [0, 1, 3, 4, 5, 6, 7, 8, 9, 10, 11] [2] rfl (by kernel_rfl) (by kernel_rfl) (by kernel_rfl) rfl rfl (wants_none rfl) rfl (ex_fieldAddr fi_92_2 rfl rfl) ?_
        refine JP_take (i := 3) [0, 1, 3, 4, 5, 6, 7, 8, 9, 10, 11] [2] rfl (by kernel_rfl) (by kernel_rfl) (by kernel_rfl) rfl rfl (wants_none rfl) rfl (ex_load_bx 1 ti_90 rfl rfl rfl) ?_
        refine JP_take (i := 4) [0, 1, 3, 4, 5, 6, 7, 8, 9, 10, 11] [2] rfl (by kernel_rfl) (by kernel_rfl) (by kernel_rfl) rfl rfl (wants_none rfl) rfl (ex_load_bx_agg 0 ti_60 rfl rfl rfl rfl) ?_
        refine JP_take (i := 5) [0, 1, 3, 4, 5, 6, 7, 8, 9, 10, 11] [2] rfl (by kernel_rfl) (by kernel_rfl) (by kernel_rfl) rfl rfl (wants_none rfl) rfl (ex_move rfl) ?_
        refine JP_go [0, 1, 3, 4, 5, 6, 7, 8, 9, 10, 11] [2] rfl rfl rfl (fun w26 h1_27 hp25 => ?_)
        refine JD_one (i := 6) (by kernel_rfl) ?_
        refine JO_sk rfl (wants_none rfl) (sk_mapUpdate (x := r12) (y := r23) 2 key_60 Try.underlying90 rfl rfl rfl rfl rfl rfl rfl rfl) (sub_mp 0 rfl) ?_
        refine JD_done (by kernel_rfl) ?_
        refine N_then ?_
        refine J_draw [1] (by kernel_rfl) ?_
        refine JP_take (i := 0) [0, 2, 3, 4, 5, 6, 7, 8, 9, 10, 11] [1] rfl (by kernel_rfl) (by kernel_rfl) (by kernel_rfl) rfl rfl (wants_none rfl) rfl (ex_move rfl) ?_
        refine JP_take (i := 1) [0, 2, 3, 4, 5, 6, 7, 8, 9, 10, 11] [1] rfl (by kernel_rfl) (by kernel_rfl) (by kernel_rfl) rfl rfl (wants_none rfl) rfl (ex_move rfl) ?_
        refine JP_take (i := 2) [0, 2, 3, 4, 5, 6, 7, 8, 9, 10, 11] [1] rfl (by kernel_rfl) (by kernel_rfl) (by kernel_rfl) rfl rfl (wants_none rfl) rfl (ex_nilCheck rfl) ?_
        refine JP_take (i := 3) [0, 2, 3, 4, 5, 6, 7, 8, 9, 10, 11] [1] rfl (by kernel_rfl) (by kernel_rfl) (by kernel_rfl) rfl rfl (wants_none rfl) rfl (ex_fieldAddr fi_92_1 rfl rfl) ?_
        refine JP_take (i := 5) [0, 2, 3, 4, 5, 6, 7, 8, 9, 10, 11] [1] rfl (by kernel_rfl) (by kernel_rfl) (by kernel_rfl) rfl rfl (wants_none rfl) rfl (ex_load_bx_agg 0 ti_60 rfl rfl rfl rfl) ?_
        refine JP_go [0, 2, 3, 4, 5, 6, 7, 8, 9, 10, 11] [1] rfl rfl rfl (fun w29 h1_30 hp28 => ?_)
        refine JD_two (i := 4) (j := 6) (by kernel_rfl) ?_ ?_
        · refine JO_q rfl (wants_none rfl) rfl (ex_load_bx 1 ti_89 rfl rfl rfl) ?_
          refine JD_one (i := 6) (by kernel_rfl) ?_
          refine JO_st rfl (wants_none rfl) rfl (st_buildSlice (vs := [.agg #[.int .i64 r12.kind, .int .i64 r12.a, .int .i64 r12.b, .int .i64 r12.c]]) ([r12] : List GbitPlace) Try.underlying89 ti_60 zi_60 rfl rfl rfl (fun w hh => ⟨(GbitPlace.rdmk (Rd.mk_int _ _ _) (Rd.mk_int _ _ _) (Rd.mk_int _ _ _) (Rd.mk_int _ _ _)), trivial⟩)) (fun _ hk => nomatch hk) (fun b31 => ?_)
          refine JD_bnd fun z32 hz33 => ?_
          refine JD_one (i := 7) (by kernel_rfl) ?_
          refine JO_ctx (fun w hh => SH.ow_nil (α := GbitPlace) 60 hh) (fun _ hb => hb) ?_
          refine JO_st2 0 [1] [0, 2, 3, 4, 5, 6, 7, 8, 9, 10, 11] [2, 4, 5, 6, 7, 8, 9, 10, 11, 12, 13] rfl rfl rfl rfl rfl rfl (wants_none rfl) rfl (st_append 0 Try.underlying89 ti_60 zi_60 rfl bi_60 rfl rfl rfl rfl (fun w hh => hh.src_ow 1 rfl) hz33) (fun _ hk => hk) (fun v34 => ?_)
          refine JD_take (i := 8) hp28 rfl (by kernel_rfl) (by kernel_rfl) (by kernel_rfl) (wants_none rfl) rfl (ex_nilCheck rfl) ?_
          refine JD_take (i := 9) hp28 rfl (by kernel_rfl) (by kernel_rfl) (by kernel_rfl) (wants_none rfl) rfl (ex_fieldAddr fi_92_1 rfl rfl) ?_
          refine JD_one (i := 10) (by kernel_rfl) ?_
          refine JO_sk rfl (wants_none rfl) (sk_store_bx' 3 ti_89 rfl rfl (fun w hh => (hh.cv_ow 0 rfl)) rfl rfl rfl rfl) (sub_bx 0 rfl) ?_
          refine JD_done (by kernel_rfl) ?_
          exact N_meet' v34 ⟨rfl, trivial⟩ [13, 10, 12, 11, 9, 8, 0, 4, 3, 7, 6] rfl rfl
        · refine JO_st rfl (wants_none rfl) rfl (st_buildSlice (vs := [.agg #[.int .i64 r12.kind, .int .i64 r12.a, .int .i64 r12.b, .int .i64 r12.c]]) ([r12] : List GbitPlace) Try.underlying89 ti_60 zi_60 rfl rfl rfl (fun w hh => ⟨(GbitPlace.rdmk (Rd.mk_int _ _ _) (Rd.mk_int _ _ _) (Rd.mk_int _ _ _) (Rd.mk_int _ _ _)), trivial⟩)) (fun _ hk => nomatch hk) (fun b35 => ?_)
          refine JD_one (i := 4) (by kernel_rfl) ?_
          refine JO_q rfl (wants_none rfl) rfl (ex_load_bx 2 ti_89 rfl rfl rfl) ?_
          refine JD_bnd fun z36 hz37 => ?_
          refine JD_one (i := 7) (by kernel_rfl) ?_
          refine JO_ctx (fun w hh => SH.ow_nil (α := GbitPlace) 60 hh) (fun _ hb => hb) ?_
          refine JO_st2 0 [1] [0, 2, 3, 4, 5, 6, 7, 8, 9, 10, 11] [2, 4, 5, 6, 7, 8, 9, 10, 11, 12, 13] rfl rfl rfl rfl rfl rfl (wants_none rfl) rfl (st_append 0 Try.underlying89 ti_60 zi_60 rfl bi_60 rfl rfl rfl rfl (fun w hh => hh.src_ow 1 rfl) hz37) (fun _ hk => hk) (fun v38 => ?_)
          refine JD_take (i := 8) hp28 rfl (by kernel_rfl) (by kernel_rfl) (by kernel_rfl) (wants_none rfl) rfl (ex_nilCheck rfl) ?_
          refine JD_take (i := 9) hp28 rfl (by kernel_rfl) (by kernel_rfl) (by kernel_rfl) (wants_none rfl) rfl (ex_fieldAddr fi_92_1 rfl rfl) ?_
          refine JD_one (i := 10) (by kernel_rfl) ?_
          refine JO_sk rfl (wants_none rfl) (sk_store_bx' 3 ti_89 rfl rfl (fun w hh => (hh.cv_ow 0 rfl)) rfl rfl rfl rfl) (sub_bx 0 rfl) ?_
          refine JD_done (by kernel_rfl) ?_
          exact N_meet' v38 ⟨rfl, trivial⟩ [13, 10, 12, 11, 9, 8, 0, 4, 3, 7, 6] rfl rfl
      · refine J_skip ?_
        refine N_ctx (fun w hh => SH.ow_nil (α := GbitPlace) 60 hh) ?_
        exact N_meet' (.slice none 0 0 : Value) ⟨rfl, trivial⟩ [12, 9, 11, 10, 8, 7, 0, 3, 2, 6, 5] rfl rfl
    · refine N_then ?_
      refine J_seq ?_
      refine J_region ?_
      refine JL_q (wants_none rfl) rfl (ex_move rfl) ?_
      refine JL_q (wants_none rfl) rfl (ex_assign rfl) ?_
      refine JL_nil ?_
      refine N_then ?_
      refine J_ret ?_
      refine N_inl1 hK18 rfl (rv_tmp rfl) ?_
      refine JL_nil ?_
      refine N_then ?_
      refine J_seq ?_
      refine J_seq ?_
      refine J_region ?_
      refine JL_q (wants_none rfl) rfl (ex_assign rfl) ?_
      refine JL_nil ?_
      refine N_then ?_
      refine J_ctx (fun w hh => SH.ow_nil (α := GRule) 97 hh) ?_
      refine J_loop' (S := (List GRule) × (List GbitPlace) × List (GbitPlace × Int) × Int) (G := Value × Value) (F_impl_DecodeBinary_L1 p0 r9) (fun s39 g40 => [(0, .int .i64 2), (2, .func (.func 75) #[] #[.pointer (some ⟨b8, 0, none⟩), .pointer (some ⟨b11, 0, none⟩)]), (8, .pointer (some ⟨b17, 0, none⟩)), (9, .int .i64 s39.2.2.2)]) (fun s39 g40 => [.rd v0_0 p0.Rules, .bx b8 28 [.int .i64 p0.Symbols, .int .i64 p0.States, v0_0], .bx b11 2 [.int .i64 r9], .ow 97 g40.1 s39.1, .ow 60 g40.2 s39.2.1, mpf GbitPlace.enc (Value.int .i64) b16 s39.2.2.1, .bx b17 92 [.int .i64 2, .int .i64 0, g40.1, g40.2, .map (some b16)], .bx b1 28 [.int .i64 p0.Symbols, .int .i64 p0.States, v0_0], .rd v1_0 p1.Left, .rd v1_1 p1.Right, .bx b2 39 [.int .i64 p1.State, v1_0, v1_1], .bx b3 39 [.int .i64 0, .slice none 0 0, .slice none 0 0]]) (([] : (List GRule)), s20.2.1, s20.2.2, 0) ((.slice none 0 0 : Value), g21) ⟨rfl, rfl, rfl, rfl, trivial⟩ [1, 10, 11, 0, 7, 8, 9, 2, 3, 4, 5, 6] rfl rfl (fun s39 g40 => ?_) (fun s39 g40 => ?_)
      · obtain ⟨g40_0, g40_1⟩ := g40
        unfold F_impl_DecodeBinary_L1
        refine J_seq ?_
        refine J_seq ?_
        refine J_region ?_
        refine JL_q (wants_none rfl) rfl (ex_move rfl) ?_
        refine JL_q (wants_none rfl) rfl (ex_move rfl) ?_
        refine JL_q (wants_none rfl) rfl (ex_nilCheck rfl) ?_
        refine JL_q (wants_none rfl) rfl (ex_fieldAddr fi_92_1 rfl rfl) ?_
        refine JL_q (wants_none rfl) rfl (ex_load_bx 6 ti_89 rfl rfl rfl) ?_
        refine JL_q (wants_none rfl) rfl (ex_len_ow 4 Try.underlying89 rfl rfl) ?_
        refine JL_q (wants_none rfl) rfl (ex_lss rfl rfl) ?_
        refine JL_nil ?_
        refine N_then ?_
        refine J_if rfl (fun h41 => ?_) (fun h41 => ?_)
        · refine J_skip ?_
          refine N_then ?_
          refine J_seq ?_
          refine J_block ?_
          refine J_seq ?_
          refine J_seq ?_
          refine J_region ?_
          refine JL_q (wants_none rfl) rfl (ex_move rfl) ?_
          refine JL_q (wants_none rfl) rfl (ex_move rfl) ?_
          refine JL_nil ?_
          refine N_then ?_
          refine J_loop' (S := (List GRule) × (List GbitPlace) × List (GbitPlace × Int) × Int) (G := Value × Value) (F_impl_DecodeBinary_L2 p0 r9 s39) (fun s42 g43 => [(0, .int .i64 2), (2, .func (.func 75) #[] #[.pointer (some ⟨b8, 0, none⟩), .pointer (some ⟨b11, 0, none⟩)]), (8, .pointer (some ⟨b17, 0, none⟩)), (9, .int .i64 s39.2.2.2), (30, .int .i64 2), (31, .int .i64 s42.2.2.2)]) (fun s42 g43 => [.rd v0_0 p0.Rules, .bx b8 28 [.int .i64 p0.Symbols, .int .i64 p0.States, v0_0], .bx b11 2 [.int .i64 r9], .ow 97 g43.1 s42.1, .ow 60 g43.2 s42.2.1, mpf GbitPlace.enc (Value.int .i64) b16 s42.2.2.1, .bx b17 92 [.int .i64 2, .int .i64 0, g43.1, g43.2, .map (some b16)], .bx b1 28 [.int .i64 p0.Symbols, .int .i64 p0.States, v0_0], .rd v1_0 p1.Left, .rd v1_1 p1.Right, .bx b2 39 [.int .i64 p1.State, v1_0, v1_1], .bx b3 39 [.int .i64 0, .slice none 0 0, .slice none 0 0]]) (s39.1, s39.2.1, s39.2.2.1, 0) (g40_0, g40_1) ⟨rfl, rfl, rfl, rfl, rfl, rfl, trivial⟩ [0, 1, 2, 3, 4, 5, 6, 7, 8, 9, 10, 11] rfl rfl (fun s42 g43 => ?_) (fun s42 g43 => ?_)
          · obtain ⟨g43_0, g43_1⟩ := g43
            unfold F_impl_DecodeBinary_L2
            refine J_seq ?_
            refine J_region ?_
            refine JL_q (wants_none rfl) rfl (ex_lss rfl rfl) ?_
            refine JL_nil ?_
            refine N_then ?_
            refine J_seq ?_
            refine J_if rfl (fun h44 => ?_) (fun h44 => ?_)
            · refine J_skip ?_
              refine N_then ?_
              refine J_seq ?_
              refine J_block ?_
              refine J_seq ?_
              refine J_region ?_
              refine JL_q (wants_none rfl) rfl (ex_move rfl) ?_
              refine JL_q (wants_none rfl) rfl (ex_assign rfl) ?_
              refine JL_nil ?_
              refine N_then ?_
              refine J_seq ?_
              refine J_region ?_
              refine JL_bnd fun r45 hr46 => ?_
              refine JL_call (wants_none rfl) rfl Try.call97 rfl (Ca_of0 fun w hh => c_impl_noRule _ w (fun _ hk => hk.elim)  _ hr46) (fun _ => ?_)
              refine JL_st (wants_none rfl) rfl (st_alloc zi_97 rfl) (fun b47 => ?_)
              refine JL_sk (wants_none rfl) (sk_store_bx' 0 ti_97 rfl rfl (fun w hh => (cv_aggs ⟨cv_int, cv_int, cv_int, trivial⟩)) rfl rfl rfl rfl) ?_
              refine JL_nil ?_
              refine N_then ?_
              refine J_seq ?_
              refine J_cut' (S' := (List GbitPlace) × List (GbitPlace × Int) × Int × Int × Int) (G' := Value) (fun s48 g49 => [(0, .int .i64 2), (2, .func (.func 75) #[] #[.pointer (some ⟨b8, 0, none⟩), .pointer (some ⟨b11, 0, none⟩)]), (8, .pointer (some ⟨b17, 0, none⟩)), (9, .int .i64 s39.2.2.2), (11, .pointer (some ⟨b47, 0, none⟩)), (30, .int .i64 2), (31, .int .i64 s42.2.2.2)]) (fun s48 g49 => [.rd v0_0 p0.Rules, .bx b8 28 [.int .i64 p0.Symbols, .int .i64 p0.States, v0_0], .bx b11 2 [.int .i64 r9], .ow 97 g43_0 s42.1, .ow 60 g49 s48.1, mpf GbitPlace.enc (Value.int .i64) b16 s48.2.1, .bx b17 92 [.int .i64 2, .int .i64 0, g43_0, g49, .map (some b16)], .bx b47 97 [.int .i64 s48.2.2.1, .int .i64 s48.2.2.2.1, .int .i64 s48.2.2.2.2], .bx b1 28 [.int .i64 p0.Symbols, .int .i64 p0.States, v0_0], .rd v1_0 p1.Left, .rd v1_1 p1.Right, .bx b2 39 [.int .i64 p1.State, v1_0, v1_1], .bx b3 39 [.int .i64 0, .slice none 0 0, .slice none 0 0]]) ?_ (fun s48 g49 => ?_)
              · refine J_seq ?_
                refine J_region ?_
                refine JL_q (wants_none rfl) rfl (ex_move rfl) ?_
                refine JL_q (wants_none rfl) rfl (ex_move rfl) ?_
                refine JL_q (wants_none rfl) rfl (ex_nilCheck rfl) ?_
                refine JL_q (wants_none rfl) rfl (ex_fieldAddr fi_92_1 rfl rfl) ?_
                refine JL_q (wants_none rfl) rfl (ex_load_bx 7 ti_89 rfl rfl rfl) ?_
                refine JL_q (wants_none rfl) rfl (ex_move rfl) ?_
                refine JL_bnd fun y50 hy51 => ?_
                refine JL_ow_open (v := g43_1) 5 rfl hy51 ?_; rintro b52 cap53 rfl
                refine JL_q (wants_none rfl) rfl (ex_index_ow 5 Try.underlying89 ti_60 rfl rfl rfl hy51) ?_
                refine JL_st (wants_none rfl) rfl (st_load_ow_o 5 (GbitPlace.opens _) ti_60 rfl rfl hy51) (fun _ => ?_)
                refine JL_q (wants_none rfl) rfl (ex_move rfl) ?_
                refine JL_bnd fun r55 hr56 => ?_
                refine JL_callv (args := [_, _]) (caps := [.pointer (some ⟨b8, 0, none⟩), .pointer (some ⟨b11, 0, none⟩)]) (wants_none rfl) rfl Try.call75 rfl rfl (Ca_of0 fun w hh => c_impl_binary_1 nowhere w (fun _ hk => hk.elim) _ _ (GbitPlace.rdmk (Rd.mk_int _ _ _) (Rd.mk_int _ _ _) (Rd.mk_int _ _ _) (Rd.mk_int _ _ _)) _ _ _ (hh.bx_pa 2 rfl (GMachine.rdmk (Rd.mk_int _ _ _) (Rd.mk_int _ _ _) (hh.rd0 1 rfl)) rfl) _ _ (hh.bx_pa1 3 rfl (Rd.mk_int _ _ _) rfl rfl) _ hr56) (fun _ => ?_)
                refine JL_st (wants_none rfl) rfl (st_alloc zi_107 rfl) (fun b57 => ?_)
                refine JL_sk (wants_none rfl) (sk_store_bx' 0 ti_107 rfl rfl (fun w hh => (cv_aggs ⟨cv_int, cv_int, cv_int, cv_int, cv_int, cv_int, cv_bool, trivial⟩)) rfl rfl rfl rfl) ?_
                refine JL_nil ?_
                refine N_then ?_
                refine J_seq ?_
                refine J_region ?_
                refine JL_q (wants_none rfl) rfl (ex_fieldAddr fi_107_3 rfl rfl) ?_
                refine JL_q (wants_none rfl) rfl (ex_load_bx 0 ti_4 rfl rfl rfl) ?_
                refine JL_q (wants_none rfl) rfl (ex_not rfl) ?_
                refine JL_nil ?_
                refine N_then ?_
                refine J_if rfl (fun h58 => ?_) (fun h58 => ?_)
                · refine J_draw [1, 5, 6, 7, 8] (by kernel_rfl) ?_
                  refine JP_take (i := 0) [0, 2, 3, 4, 9, 10, 11, 12, 13] [1, 5, 6, 7, 8] rfl (by kernel_rfl) (by kernel_rfl) (by kernel_rfl) rfl rfl (wants_none rfl) rfl (ex_fieldAddr fi_107_0 rfl rfl) ?_
                  refine JP_take (i := 1) [0, 2, 3, 4, 9, 10, 11, 12, 13] [1, 5, 6, 7, 8] rfl (by kernel_rfl) (by kernel_rfl) (by kernel_rfl) rfl rfl (wants_none rfl) rfl (ex_load_bx 0 ti_2 rfl rfl rfl) ?_
                  refine JP_take (i := 2) [0, 2, 3, 4, 9, 10, 11, 12, 13] [1, 5, 6, 7, 8] rfl (by kernel_rfl) (by kernel_rfl) (by kernel_rfl) rfl rfl (wants_none rfl) rfl (ex_fieldAddr fi_107_1 rfl rfl) ?_
                  refine JP_take (i := 3) [0, 2, 3, 4, 9, 10, 11, 12, 13] [1, 5, 6, 7, 8] rfl (by kernel_rfl) (by kernel_rfl) (by kernel_rfl) rfl rfl (wants_none rfl) rfl (ex_load_bx 0 ti_2 rfl rfl rfl) ?_
                  refine JP_take (i := 4) [0, 2, 3, 4, 9, 10, 11, 12, 13] [1, 5, 6, 7, 8] rfl (by kernel_rfl) (by kernel_rfl) (by kernel_rfl) rfl rfl (wants_none rfl) rfl (ex_move rfl) ?_
                  refine JP_take (i := 5) [0, 2, 3, 4, 9, 10, 11, 12, 13] [1, 5, 6, 7, 8] rfl (by kernel_rfl) (by kernel_rfl) (by kernel_rfl) rfl rfl (wants_none rfl) rfl (ex_fieldAddr fi_107_2 rfl rfl) ?_
                  refine JP_take (i := 6) [0, 2, 3, 4, 9, 10, 11, 12, 13] [1, 5, 6, 7, 8] rfl (by kernel_rfl) (by kernel_rfl) (by kernel_rfl) rfl rfl (wants_none rfl) rfl (ex_load_bx_agg 0 ti_60 rfl rfl rfl rfl) ?_
                  refine JP_go [0, 2, 3, 4, 9, 10, 11, 12, 13] [1, 5, 6, 7, 8] rfl rfl rfl (fun w60 h1_61 hp59 => ?_)
                  refine JD_one (i := 7) (by kernel_rfl) ?_
                  refine JO_inline h1_61 [1, 5, 6, 7, 8] [0, 3, 4, 9, 12, 13] rfl rfl rfl rfl (wants_none rfl) rfl Try.call96 rfl Try.func96 rfl Try.ntmps96 rfl rfl (fun C63 K_ hK62 => ?_)
                  refine J_seq ?_
                  refine J_region ?_
                  refine JL_st (wants_none rfl) rfl (st_box' rfl (fun w hh => (cv_aggs ⟨cv_int, cv_int, cv_int, cv_int, trivial⟩))) (fun b64 => ?_)
                  refine JL_q (wants_none rfl) rfl (ex_assign rfl) ?_
                  refine JL_nil ?_
                  refine N_then ?_
                  refine J_seq ?_
                  refine J_draw [] (by kernel_rfl) ?_
                  refine JP_take (i := 0) [0, 1, 2, 3, 4, 5, 6, 7, 8, 9, 10, 11, 12, 13, 14, 15] [] rfl (by kernel_rfl) (by kernel_rfl) (by kernel_rfl) rfl rfl (wants_none rfl) rfl (ex_move rfl) ?_
                  refine JP_take (i := 1) [0, 1, 2, 3, 4, 5, 6, 7, 8, 9, 10, 11, 12, 13, 14, 15] [] rfl (by kernel_rfl) (by kernel_rfl) (by kernel_rfl) rfl rfl (wants_none rfl) rfl (ex_nilCheck rfl) ?_
                  refine JP_take (i := 2) [0, 1, 2, 3, 4, 5, 6, 7, 8, 9, 10, 11, 12, 13, 14, 15] [] rfl (by kernel_rfl) (by kernel_rfl) (by kernel_rfl) rfl rfl (wants_none rfl) rfl (ex_fieldAddr fi_92_2 rfl rfl) ?_
                  refine JP_take (i := 3) [0, 1, 2, 3, 4, 5, 6, 7, 8, 9, 10, 11, 12, 13, 14, 15] [] rfl (by kernel_rfl) (by kernel_rfl) (by kernel_rfl) rfl rfl (wants_none rfl) rfl (ex_load_bx 10 ti_90 rfl rfl rfl) ?_
                  refine JP_take (i := 4) [0, 1, 2, 3, 4, 5, 6, 7, 8, 9, 10, 11, 12, 13, 14, 15] [] rfl (by kernel_rfl) (by kernel_rfl) (by kernel_rfl) rfl rfl (wants_none rfl) rfl (ex_load_bx_agg 0 ti_60 rfl rfl rfl rfl) ?_
                  refine JP_take (i := 5) [0, 1, 2, 3, 4, 5, 6, 7, 8, 9, 10, 11, 12, 13, 14, 15] [] rfl (by kernel_rfl) (by kernel_rfl) (by kernel_rfl) rfl rfl (wants_none rfl) rfl (ex_lookup_ok (x := (⟨r55.next_kind, r55.next_a, r55.next_b, r55.next_c⟩ : GbitPlace)) (z := 0) 9 key_60 Try.underlying90 zi_2 rfl rfl rfl rfl rfl) ?_
                  refine JP_take (i := 6) [0, 1, 2, 3, 4, 5, 6, 7, 8, 9, 10, 11, 12, 13, 14, 15] [] rfl (by kernel_rfl) (by kernel_rfl) (by kernel_rfl) rfl rfl (wants_none rfl) rfl (ex_move rfl) ?_
                  refine JP_take (i := 7) [0, 1, 2, 3, 4, 5, 6, 7, 8, 9, 10, 11, 12, 13, 14, 15] [] rfl (by kernel_rfl) (by kernel_rfl) (by kernel_rfl) rfl rfl (wants_none rfl) rfl (ex_extract rfl rfl) ?_
                  refine JP_take (i := 8) [0, 1, 2, 3, 4, 5, 6, 7, 8, 9, 10, 11, 12, 13, 14, 15] [] rfl (by kernel_rfl) (by kernel_rfl) (by kernel_rfl) rfl rfl (wants_none rfl) rfl (ex_extract rfl rfl) ?_
                  refine JP_take (i := 9) [0, 1, 2, 3, 4, 5, 6, 7, 8, 9, 10, 11, 12, 13, 14, 15] [] rfl (by kernel_rfl) (by kernel_rfl) (by kernel_rfl) rfl rfl (wants_none rfl) rfl (ex_assign rfl) ?_
                  refine JP_take (i := 10) [0, 1, 2, 3, 4, 5, 6, 7, 8, 9, 10, 11, 12, 13, 14, 15] [] rfl (by kernel_rfl) (by kernel_rfl) (by kernel_rfl) rfl rfl (wants_none rfl) rfl (ex_assign rfl) ?_
                  refine JP_go [] [] rfl rfl rfl (fun _ _ _ => ?_)
                  refine JD_done (by kernel_rfl) ?_
                  refine N_then ?_
                  refine J_seq ?_
                  refine J_seq ?_
                  refine J_region ?_
                  refine JL_q (wants_none rfl) rfl (ex_move rfl) ?_
                  refine JL_q (wants_none rfl) rfl (ex_not rfl) ?_
                  refine JL_nil ?_
                  refine N_then ?_
                  refine J_if rfl (fun h65 => ?_) (fun h65 => ?_)
                  · refine J_seq ?_
                    refine J_region ?_
                    refine JL_q (wants_none rfl) rfl (ex_move rfl) ?_
                    refine JL_q (wants_none rfl) rfl (ex_nilCheck rfl) ?_
                    refine JL_q (wants_none rfl) rfl (ex_fieldAddr fi_92_1 rfl rfl) ?_
                    refine JL_q (wants_none rfl) rfl (ex_load_bx 10 ti_89 rfl rfl rfl) ?_
                    refine JL_bnd fun r66 hr67 => ?_
                    refine JL_call (wants_none rfl) rfl Try.call98 rfl (Ca_of0 fun w hh => c_impl_size_impl_bitPlace _ w (fun _ hk => hk.elim) _ _ (hh.ow0 8 rfl) _ hr67) (fun _ => ?_)
                    refine JL_q (wants_none rfl) rfl (ex_assign rfl) ?_
                    refine JL_nil ?_
                    refine N_then ?_
                    refine J_seq ?_
                    refine J_draw [9] (by kernel_rfl) ?_
                    refine JP_take (i := 0) [0, 1, 2, 3, 4, 5, 6, 7, 8, 10, 11, 12, 13, 14, 15] [9] rfl (by kernel_rfl) (by kernel_rfl) (by kernel_rfl) rfl rfl (wants_none rfl) rfl (ex_move rfl) ?_
                    refine JP_take (i := 1) [0, 1, 2, 3, 4, 5, 6, 7, 8, 10, 11, 12, 13, 14, 15] [9] rfl (by kernel_rfl) (by kernel_rfl) (by kernel_rfl) rfl rfl (wants_none rfl) rfl (ex_nilCheck rfl) ?_
                    refine JP_take (i := 2) [0, 1, 2, 3, 4, 5, 6, 7, 8, 10, 11, 12, 13, 14, 15] [9] rfl (by kernel_rfl) (by kernel_rfl) (by kernel_rfl) rfl rfl (wants_none rfl) rfl (ex_fieldAddr fi_92_2 rfl rfl) ?_
                    refine JP_take (i := 3) [0, 1, 2, 3, 4, 5, 6, 7, 8, 10, 11, 12, 13, 14, 15] [9] rfl (by kernel_rfl) (by kernel_rfl) (by kernel_rfl) rfl rfl (wants_none rfl) rfl (ex_load_bx 9 ti_90 rfl rfl rfl) ?_
                    refine JP_take (i := 4) [0, 1, 2, 3, 4, 5, 6, 7, 8, 10, 11, 12, 13, 14, 15] [9] rfl (by kernel_rfl) (by kernel_rfl) (by kernel_rfl) rfl rfl (wants_none rfl) rfl (ex_load_bx_agg 0 ti_60 rfl rfl rfl rfl) ?_
                    refine JP_take (i := 5) [0, 1, 2, 3, 4, 5, 6, 7, 8, 10, 11, 12, 13, 14, 15] [9] rfl (by kernel_rfl) (by kernel_rfl) (by kernel_rfl) rfl rfl (wants_none rfl) rfl (ex_move rfl) ?_
                    refine JP_go [0, 1, 2, 3, 4, 5, 6, 7, 8, 10, 11, 12, 13, 14, 15] [9] rfl rfl rfl (fun w69 h1_70 hp68 => ?_)
                    refine JD_one (i := 6) (by kernel_rfl) ?_
                    refine JO_sk rfl (wants_none rfl) (sk_mapUpdate (x := (⟨r55.next_kind, r55.next_a, r55.next_b, r55.next_c⟩ : GbitPlace)) (y := r66) 9 key_60 Try.underlying90 rfl rfl rfl rfl rfl rfl rfl rfl) (sub_mp 0 rfl) ?_
                    refine JD_done (by kernel_rfl) ?_
                    refine N_then ?_
                    refine J_draw [8, 10] (by kernel_rfl) ?_
                    refine JP_take (i := 0) [0, 1, 2, 3, 4, 5, 6, 7, 9, 11, 12, 13, 14, 15] [8, 10] rfl (by kernel_rfl) (by kernel_rfl) (by kernel_rfl) rfl rfl (wants_none rfl) rfl (ex_move rfl) ?_
                    refine JP_take (i := 1) [0, 1, 2, 3, 4, 5, 6, 7, 9, 11, 12, 13, 14, 15] [8, 10] rfl (by kernel_rfl) (by kernel_rfl) (by kernel_rfl) rfl rfl (wants_none rfl) rfl (ex_move rfl) ?_
                    refine JP_take (i := 2) [0, 1, 2, 3, 4, 5, 6, 7, 9, 11, 12, 13, 14, 15] [8, 10] rfl (by kernel_rfl) (by kernel_rfl) (by kernel_rfl) rfl rfl (wants_none rfl) rfl (ex_nilCheck rfl) ?_
                    refine JP_take (i := 3) [0, 1, 2, 3, 4, 5, 6, 7, 9, 11, 12, 13, 14, 15] [8, 10] rfl (by kernel_rfl) (by kernel_rfl) (by kernel_rfl) rfl rfl (wants_none rfl) rfl (ex_fieldAddr fi_92_1 rfl rfl) ?_
                    refine JP_take (i := 5) [0, 1, 2, 3, 4, 5, 6, 7, 9, 11, 12, 13, 14, 15] [8, 10] rfl (by kernel_rfl) (by kernel_rfl) (by kernel_rfl) rfl rfl (wants_none rfl) rfl (ex_load_bx_agg 0 ti_60 rfl rfl rfl rfl) ?_
                    refine JP_go [0, 1, 2, 3, 4, 5, 6, 7, 9, 11, 12, 13, 14, 15] [8, 10] rfl rfl rfl (fun w72 h1_73 hp71 => ?_)
                    refine JD_two (i := 4) (j := 6) (by kernel_rfl) ?_ ?_
                    · refine JO_q rfl (wants_none rfl) rfl (ex_load_bx 10 ti_89 rfl rfl rfl) ?_
                      refine JD_one (i := 6) (by kernel_rfl) ?_
                      refine JO_st rfl (wants_none rfl) rfl (st_buildSlice (vs := [.agg #[.int .i64 r55.next_kind, .int .i64 r55.next_a, .int .i64 r55.next_b, .int .i64 r55.next_c]]) ([(⟨r55.next_kind, r55.next_a, r55.next_b, r55.next_c⟩ : GbitPlace)] : List GbitPlace) Try.underlying89 ti_60 zi_60 rfl rfl rfl (fun w hh => ⟨(GbitPlace.rdmk (Rd.mk_int _ _ _) (Rd.mk_int _ _ _) (Rd.mk_int _ _ _) (Rd.mk_int _ _ _)), trivial⟩)) (fun _ hk => nomatch hk) (fun b74 => ?_)
                      refine JD_bnd fun z75 hz76 => ?_
                      refine JD_one (i := 7) (by kernel_rfl) ?_
                      refine JO_st rfl (wants_none rfl) rfl (st_append 9 Try.underlying89 ti_60 zi_60 rfl bi_60 rfl rfl rfl rfl (fun w hh => hh.src_ow 0 rfl) hz76) (sub_ow 0 rfl) (fun v77 => ?_)
                      refine JD_take (i := 8) hp71 rfl (by kernel_rfl) (by kernel_rfl) (by kernel_rfl) (wants_none rfl) rfl (ex_nilCheck rfl) ?_
                      refine JD_take (i := 9) hp71 rfl (by kernel_rfl) (by kernel_rfl) (by kernel_rfl) (wants_none rfl) rfl (ex_fieldAddr fi_92_1 rfl rfl) ?_
                      refine JD_one (i := 10) (by kernel_rfl) ?_
                      refine JO_sk rfl (wants_none rfl) (sk_store_bx' 11 ti_89 rfl rfl (fun w hh => (hh.cv_ow 9 rfl)) rfl rfl rfl rfl) (sub_bx 1 rfl) ?_
                      refine JD_done (by kernel_rfl) ?_
                      refine N_then ?_
                      refine J_seq ?_
                      refine J_region ?_
                      refine JL_q (wants_none rfl) rfl (ex_move rfl) ?_
                      refine JL_q (wants_none rfl) rfl (ex_assign rfl) ?_
                      refine JL_nil ?_
                      refine N_then ?_
                      refine J_ret ?_
                      refine N_inlD1 hK62 rfl (rv_tmp rfl) 2 [3, 6, 7, 12, 15, 16] rfl rfl ?_
                      refine JD_take (i := 8) hp59 rfl (by kernel_rfl) (by kernel_rfl) (by kernel_rfl) (wants_none rfl) rfl (ex_build si_97 rfl (.cons fi_97_0 rfl rfl (.cons fi_97_1 rfl rfl (.cons fi_97_2 rfl rfl .nil))) (fun w hh => ⟨cv_int, cv_int, cv_int, trivial⟩)) ?_
                      refine JD_one (i := 9) (by kernel_rfl) ?_
                      refine JO_sk rfl (wants_none rfl) (sk_store_bx' 4 ti_97 rfl rfl (fun w hh => (cv_aggs ⟨cv_int, cv_int, cv_int, trivial⟩)) rfl rfl rfl rfl) (sub_bx 0 rfl) ?_
                      refine JD_done (by kernel_rfl) ?_
                      exact N_meet' v77 ⟨rfl, rfl, rfl, rfl, rfl, rfl, rfl, trivial⟩ [5, 6, 7, 8, 9, 10, 11, 4, 12, 13, 14, 15, 16] rfl rfl
                    · refine JO_st rfl (wants_none rfl) rfl (st_buildSlice (vs := [.agg #[.int .i64 r55.next_kind, .int .i64 r55.next_a, .int .i64 r55.next_b, .int .i64 r55.next_c]]) ([(⟨r55.next_kind, r55.next_a, r55.next_b, r55.next_c⟩ : GbitPlace)] : List GbitPlace) Try.underlying89 ti_60 zi_60 rfl rfl rfl (fun w hh => ⟨(GbitPlace.rdmk (Rd.mk_int _ _ _) (Rd.mk_int _ _ _) (Rd.mk_int _ _ _) (Rd.mk_int _ _ _)), trivial⟩)) (fun _ hk => nomatch hk) (fun b78 => ?_)
                      refine JD_one (i := 4) (by kernel_rfl) ?_
                      refine JO_q rfl (wants_none rfl) rfl (ex_load_bx 11 ti_89 rfl rfl rfl) ?_
                      refine JD_bnd fun z79 hz80 => ?_
                      refine JD_one (i := 7) (by kernel_rfl) ?_
                      refine JO_st rfl (wants_none rfl) rfl (st_append 9 Try.underlying89 ti_60 zi_60 rfl bi_60 rfl rfl rfl rfl (fun w hh => hh.src_ow 0 rfl) hz80) (sub_ow 0 rfl) (fun v81 => ?_)
                      refine JD_take (i := 8) hp71 rfl (by kernel_rfl) (by kernel_rfl) (by kernel_rfl) (wants_none rfl) rfl (ex_nilCheck rfl) ?_
                      refine JD_take (i := 9) hp71 rfl (by kernel_rfl) (by kernel_rfl) (by kernel_rfl) (wants_none rfl) rfl (ex_fieldAddr fi_92_1 rfl rfl) ?_
                      refine JD_one (i := 10) (by kernel_rfl) ?_
                      refine JO_sk rfl (wants_none rfl) (sk_store_bx' 11 ti_89 rfl rfl (fun w hh => (hh.cv_ow 9 rfl)) rfl rfl rfl rfl) (sub_bx 1 rfl) ?_
                      refine JD_done (by kernel_rfl) ?_
                      refine N_then ?_
                      refine J_seq ?_
                      refine J_region ?_
                      refine JL_q (wants_none rfl) rfl (ex_move rfl) ?_
                      refine JL_q (wants_none rfl) rfl (ex_assign rfl) ?_
                      refine JL_nil ?_
                      refine N_then ?_
                      refine J_ret ?_
                      refine N_inlD1 hK62 rfl (rv_tmp rfl) 2 [3, 6, 7, 12, 15, 16] rfl rfl ?_
                      refine JD_take (i := 8) hp59 rfl (by kernel_rfl) (by kernel_rfl) (by kernel_rfl) (wants_none rfl) rfl (ex_build si_97 rfl (.cons fi_97_0 rfl rfl (.cons fi_97_1 rfl rfl (.cons fi_97_2 rfl rfl .nil))) (fun w hh => ⟨cv_int, cv_int, cv_int, trivial⟩)) ?_
                      refine JD_one (i := 9) (by kernel_rfl) ?_
                      refine JO_sk rfl (wants_none rfl) (sk_store_bx' 4 ti_97 rfl rfl (fun w hh => (cv_aggs ⟨cv_int, cv_int, cv_int, trivial⟩)) rfl rfl rfl rfl) (sub_bx 0 rfl) ?_
                      refine JD_done (by kernel_rfl) ?_
                      exact N_meet' v81 ⟨rfl, rfl, rfl, rfl, rfl, rfl, rfl, trivial⟩ [5, 6, 7, 8, 9, 10, 11, 4, 12, 13, 14, 15, 16] rfl rfl
                  · refine J_skip ?_
                    refine N_then ?_
                    refine J_seq ?_
                    refine J_region ?_
                    refine JL_q (wants_none rfl) rfl (ex_move rfl) ?_
                    refine JL_q (wants_none rfl) rfl (ex_assign rfl) ?_
                    refine JL_nil ?_
                    refine N_then ?_
                    refine J_ret ?_
                    refine N_inlD1 hK62 rfl (rv_tmp rfl) 1 [2, 5, 6, 11, 14, 15] rfl rfl ?_
                    refine JD_take (i := 8) hp59 rfl (by kernel_rfl) (by kernel_rfl) (by kernel_rfl) (wants_none rfl) rfl (ex_build si_97 rfl (.cons fi_97_0 rfl rfl (.cons fi_97_1 rfl rfl (.cons fi_97_2 rfl rfl .nil))) (fun w hh => ⟨cv_int, cv_int, cv_int, trivial⟩)) ?_
                    refine JD_one (i := 9) (by kernel_rfl) ?_
                    refine JO_sk rfl (wants_none rfl) (sk_store_bx' 3 ti_97 rfl rfl (fun w hh => (cv_aggs ⟨cv_int, cv_int, cv_int, trivial⟩)) rfl rfl rfl rfl) (sub_bx 0 rfl) ?_
                    refine JD_done (by kernel_rfl) ?_
                    exact N_meet' (.slice (some ⟨b52, 0, none⟩) s42.2.1.length cap53) ⟨rfl, rfl, rfl, rfl, rfl, rfl, rfl, trivial⟩ [4, 5, 6, 7, 8, 9, 10, 3, 11, 12, 13, 14, 15] rfl rfl
                · refine J_skip ?_
                  exact N_meet' (.slice (some ⟨b52, 0, none⟩) s42.2.1.length cap53) ⟨rfl, rfl, rfl, rfl, rfl, rfl, rfl, trivial⟩ [2, 3, 4, 5, 6, 7, 8, 1, 9, 10, 11, 12, 13] rfl rfl
              · refine N_then ?_
                refine J_draw [3, 6] (by kernel_rfl) ?_
                refine JP_take (i := 0) [0, 1, 2, 4, 5, 7, 8, 9, 10, 11, 12] [3, 6] rfl (by kernel_rfl) (by kernel_rfl) (by kernel_rfl) rfl rfl (wants_none rfl) rfl (ex_move rfl) ?_
                refine JP_take (i := 1) [0, 1, 2, 4, 5, 7, 8, 9, 10, 11, 12] [3, 6] rfl (by kernel_rfl) (by kernel_rfl) (by kernel_rfl) rfl rfl (wants_none rfl) rfl (ex_move rfl) ?_
                refine JP_take (i := 2) [0, 1, 2, 4, 5, 7, 8, 9, 10, 11, 12] [3, 6] rfl (by kernel_rfl) (by kernel_rfl) (by kernel_rfl) rfl rfl (wants_none rfl) rfl (ex_nilCheck rfl) ?_
                refine JP_take (i := 3) [0, 1, 2, 4, 5, 7, 8, 9, 10, 11, 12] [3, 6] rfl (by kernel_rfl) (by kernel_rfl) (by kernel_rfl) rfl rfl (wants_none rfl) rfl (ex_fieldAddr fi_92_0 rfl rfl) ?_
                refine JP_take (i := 4) [0, 1, 2, 4, 5, 7, 8, 9, 10, 11, 12] [3, 6] rfl (by kernel_rfl) (by kernel_rfl) (by kernel_rfl) rfl rfl (wants_none rfl) rfl (ex_fieldAddr fi_28_2 rfl rfl) ?_
                refine JP_take (i := 6) [0, 1, 2, 4, 5, 7, 8, 9, 10, 11, 12] [3, 6] rfl (by kernel_rfl) (by kernel_rfl) (by kernel_rfl) rfl rfl (wants_none rfl) rfl (ex_load_bx_agg 5 ti_97 rfl rfl rfl rfl) ?_
                refine JP_go [0, 1, 2, 4, 5, 7, 8, 9, 10, 11, 12] [3, 6] rfl rfl rfl (fun w83 h1_84 hp82 => ?_)
                refine JD_two (i := 5) (j := 7) (by kernel_rfl) ?_ ?_
                · refine JO_q rfl (wants_none rfl) rfl (ex_load_bx 6 ti_26 rfl rfl rfl) ?_
                  refine JD_one (i := 7) (by kernel_rfl) ?_
                  refine JO_st rfl (wants_none rfl) rfl (st_buildSlice (vs := [.agg #[.int .i64 s48.2.2.1, .int .i64 s48.2.2.2.1, .int .i64 s48.2.2.2.2]]) ([(⟨s48.2.2.1, s48.2.2.2.1, s48.2.2.2.2⟩ : GRule)] : List GRule) Try.underlying26 ti_97 zi_97 rfl rfl rfl (fun w hh => ⟨(GRule.rdmk (Rd.mk_int _ _ _) (Rd.mk_int _ _ _) (Rd.mk_int _ _ _)), trivial⟩)) (fun _ hk => nomatch hk) (fun b85 => ?_)
                  refine JD_bnd fun z86 hz87 => ?_
                  refine JD_one (i := 8) (by kernel_rfl) ?_
                  refine JO_st rfl (wants_none rfl) rfl (st_append 4 Try.underlying26 ti_97 zi_97 rfl bi_97 rfl rfl rfl rfl (fun w hh => hh.src_ow 0 rfl) hz87) (sub_ow 0 rfl) (fun v88 => ?_)
                  refine JD_take (i := 9) hp82 rfl (by kernel_rfl) (by kernel_rfl) (by kernel_rfl) (wants_none rfl) rfl (ex_nilCheck rfl) ?_
                  refine JD_take (i := 10) hp82 rfl (by kernel_rfl) (by kernel_rfl) (by kernel_rfl) (wants_none rfl) rfl (ex_fieldAddr fi_92_0 rfl rfl) ?_
                  refine JD_take (i := 11) hp82 rfl (by kernel_rfl) (by kernel_rfl) (by kernel_rfl) (wants_none rfl) rfl (ex_fieldAddr fi_28_2 rfl rfl) ?_
                  refine JD_one (i := 12) (by kernel_rfl) ?_
                  refine JO_sk rfl (wants_none rfl) (sk_store_bx' 7 ti_26 rfl rfl (fun w hh => (hh.cv_ow 4 rfl)) rfl rfl rfl rfl) (sub_bx 1 rfl) ?_
                  refine JD_done (by kernel_rfl) ?_
                  refine N_block ?_
                  refine N_then ?_
                  refine J_region ?_
                  refine JL_q (wants_none rfl) rfl (ex_add rfl rfl) ?_
                  refine JL_q (wants_none rfl) rfl (ex_move rfl) ?_
                  refine JL_nil ?_
                  exact N_next' (v88, g49) ⟨rfl, rfl, rfl, rfl, rfl, rfl, trivial⟩ [1, 2, 3, 4, 5, 6, 7, 9, 10, 11, 12, 13] rfl rfl
                · refine JO_st rfl (wants_none rfl) rfl (st_buildSlice (vs := [.agg #[.int .i64 s48.2.2.1, .int .i64 s48.2.2.2.1, .int .i64 s48.2.2.2.2]]) ([(⟨s48.2.2.1, s48.2.2.2.1, s48.2.2.2.2⟩ : GRule)] : List GRule) Try.underlying26 ti_97 zi_97 rfl rfl rfl (fun w hh => ⟨(GRule.rdmk (Rd.mk_int _ _ _) (Rd.mk_int _ _ _) (Rd.mk_int _ _ _)), trivial⟩)) (fun _ hk => nomatch hk) (fun b89 => ?_)
                  refine JD_one (i := 5) (by kernel_rfl) ?_
                  refine JO_q rfl (wants_none rfl) rfl (ex_load_bx 7 ti_26 rfl rfl rfl) ?_
                  refine JD_bnd fun z90 hz91 => ?_
                  refine JD_one (i := 8) (by kernel_rfl) ?_
                  refine JO_st rfl (wants_none rfl) rfl (st_append 4 Try.underlying26 ti_97 zi_97 rfl bi_97 rfl rfl rfl rfl (fun w hh => hh.src_ow 0 rfl) hz91) (sub_ow 0 rfl) (fun v92 => ?_)
                  refine JD_take (i := 9) hp82 rfl (by kernel_rfl) (by kernel_rfl) (by kernel_rfl) (wants_none rfl) rfl (ex_nilCheck rfl) ?_
                  refine JD_take (i := 10) hp82 rfl (by kernel_rfl) (by kernel_rfl) (by kernel_rfl) (wants_none rfl) rfl (ex_fieldAddr fi_92_0 rfl rfl) ?_
                  refine JD_take (i := 11) hp82 rfl (by kernel_rfl) (by kernel_rfl) (by kernel_rfl) (wants_none rfl) rfl (ex_fieldAddr fi_28_2 rfl rfl) ?_
                  refine JD_one (i := 12) (by kernel_rfl) ?_
                  refine JO_sk rfl (wants_none rfl) (sk_store_bx' 7 ti_26 rfl rfl (fun w hh => (hh.cv_ow 4 rfl)) rfl rfl rfl rfl) (sub_bx 1 rfl) ?_
                  refine JD_done (by kernel_rfl) ?_
                  refine N_block ?_
                  refine N_then ?_
                  refine J_region ?_
                  refine JL_q (wants_none rfl) rfl (ex_add rfl rfl) ?_
                  refine JL_q (wants_none rfl) rfl (ex_move rfl) ?_
                  refine JL_nil ?_
                  exact N_next' (v92, g49) ⟨rfl, rfl, rfl, rfl, rfl, rfl, trivial⟩ [1, 2, 3, 4, 5, 6, 7, 9, 10, 11, 12, 13] rfl rfl
            · refine J_exit ?_
              refine N_then_exit ?_
              exact N_break' (g43_0, g43_1) ⟨rfl, rfl, rfl, rfl, rfl, rfl, trivial⟩ [0, 1, 2, 3, 4, 5, 6, 7, 8, 9, 10, 11] rfl rfl
          · obtain ⟨g43_0, g43_1⟩ := g43
            refine N_then ?_
            refine J_seq ?_
            refine J_region ?_
            refine JL_q (wants_none rfl) rfl (ex_move rfl) ?_
            refine JL_q (wants_none rfl) rfl (ex_nilCheck rfl) ?_
            refine JL_q (wants_none rfl) rfl (ex_fieldAddr fi_92_1 rfl rfl) ?_
            refine JL_q (wants_none rfl) rfl (ex_load_bx 6 ti_89 rfl rfl rfl) ?_
            refine JL_q (wants_none rfl) rfl (ex_len_ow 4 Try.underlying89 rfl rfl) ?_
            refine JL_q (wants_none rfl) rfl (ex_gtr rfl rfl) ?_
            refine JL_nil ?_
            refine N_then ?_
            refine J_if rfl (fun h93 => ?_) (fun h93 => ?_)
            · refine J_seq ?_
              refine J_region ?_
              refine JL_q (wants_none rfl) rfl (ex_assign rfl) ?_
              refine JL_q (wants_none rfl) rfl (ex_assign rfl) ?_
              refine JL_nil ?_
              refine N_then ?_
              refine J_ret ?_
              refine N_block_ret ?_
              refine N_then_ret ?_
              refine N_round_reti ?_
              refine N_then_ret ?_
              refine N_inl2 hK14 rfl (rv_tmp rfl) (rv_tmp rfl) ?_
              refine JL_q (wants_none rfl) rfl (ex_extract rfl rfl) ?_
              refine JL_q (wants_none rfl) rfl (ex_extract rfl rfl) ?_
              refine JL_q (wants_none rfl) rfl (ex_assign rfl) ?_
              refine JL_q (wants_none rfl) rfl (ex_assign rfl) ?_
              refine JL_nil ?_
              refine N_then ?_
              refine J_ret ?_
              refine N_inl2 hK7 rfl (rv_tmp rfl) (rv_tmp rfl) ?_
              refine JL_q (wants_none rfl) rfl (ex_move rfl) ?_
              refine JL_q (wants_none rfl) rfl (ex_extract rfl rfl) ?_
              refine JL_q (wants_none rfl) rfl (ex_extract rfl rfl) ?_
              refine JL_q (wants_none rfl) rfl (ex_assign rfl) ?_
              refine JL_q (wants_none rfl) rfl (ex_assign rfl) ?_
              refine JL_nil ?_
              refine N_then ?_
              refine J_seq ?_
              refine J_block ?_
              refine J_seq ?_
              refine J_region ?_
              refine JL_q (wants_none rfl) rfl (ex_move rfl) ?_
              refine JL_q (wants_none rfl) rfl (ex_not rfl) ?_
              refine JL_q (wants_none rfl) rfl (ex_assign rfl) ?_
              refine JL_nil ?_
              refine N_then ?_
              refine J_if_true rfl (by rw [show (false) = false from rfl]; rfl) ?_
              refine J_seq ?_
              refine J_region ?_
              refine JL_q (wants_none rfl) rfl (ex_build si_39 rfl .nil (fun w hh => trivial)) ?_
              refine JL_sk (wants_none rfl) (sk_store_bx' 11 ti_39 rfl rfl (fun w hh => (cv_aggs ⟨cv_int, cv_slice, cv_slice, trivial⟩)) rfl rfl rfl rfl) ?_
              refine JL_q (wants_none rfl) rfl (ex_assign rfl) ?_
              refine JL_nil ?_
              refine N_then ?_
              refine J_ret ?_
              refine N_block_ret ?_
              refine N_then_ret ?_
              refine N_ctx (fun w hh => SH.ow_nil (α := Int) 2 hh) ?_
              refine N_ctx (fun w hh => hh.tokf 0 rfl rfl) ?_
              refine N_ctx (fun w hh => SH.ow_nil (α := Int) 2 hh) ?_
              exact N_ret2 rfl (rv_cell 14 rfl rfl ti_39 rfl) (rv_tmp rfl) (fun w hh => ⟨((.slice none 0 0 : Value), ((.slice none 0 0 : Value).ownBlock.toList ++ []), (.slice none 0 0 : Value)), rfl, hh.sel [1, 0] rfl⟩)
            · refine J_skip ?_
              refine N_block ?_
              refine N_then ?_
              refine J_region ?_
              refine JL_q (wants_none rfl) rfl (ex_move rfl) ?_
              refine JL_q (wants_none rfl) rfl (ex_add rfl rfl) ?_
              refine JL_q (wants_none rfl) rfl (ex_assign rfl) ?_
              refine JL_nil ?_
              exact N_next' (g43_0, g43_1) ⟨rfl, rfl, rfl, rfl, trivial⟩ [0, 1, 2, 3, 4, 5, 6, 7, 8, 9, 10, 11] rfl rfl
        · refine J_exit ?_
          refine N_then_exit ?_
          exact N_break' (g40_0, g40_1) ⟨rfl, rfl, rfl, rfl, trivial⟩ [0, 1, 2, 3, 4, 5, 6, 7, 8, 9, 10, 11] rfl rfl
      · obtain ⟨g40_0, g40_1⟩ := g40
        refine N_then ?_
        refine J_seq ?_
        refine J_region ?_
        refine JL_q (wants_none rfl) rfl (ex_move rfl) ?_
        refine JL_q (wants_none rfl) rfl (ex_move rfl) ?_
        refine JL_q (wants_none rfl) rfl (ex_nilCheck rfl) ?_
        refine JL_q (wants_none rfl) rfl (ex_fieldAddr fi_92_1 rfl rfl) ?_
        refine JL_q (wants_none rfl) rfl (ex_load_bx 6 ti_89 rfl rfl rfl) ?_
        refine JL_bnd fun r94 hr95 => ?_
        refine JL_call (wants_none rfl) rfl Try.call98 rfl (Ca_of0 fun w hh => c_impl_size_impl_bitPlace _ w (fun _ hk => hk.elim) _ _ (hh.ow0 4 rfl) _ hr95) (fun _ => ?_)
        refine JL_q (wants_none rfl) rfl (ex_nilCheck rfl) ?_
        refine JL_q (wants_none rfl) rfl (ex_fieldAddr fi_92_0 rfl rfl) ?_
        refine JL_q (wants_none rfl) rfl (ex_fieldAddr fi_28_1 rfl rfl) ?_
        refine JL_sk (wants_none rfl) (sk_store_bx' 6 ti_2 rfl rfl (fun w hh => cv_int) rfl rfl rfl rfl) ?_
        refine JL_nil ?_
        refine N_then ?_
        refine J_seq ?_
        refine J_region ?_
        refine JL_q (wants_none rfl) rfl (ex_move rfl) ?_
        refine JL_q (wants_none rfl) rfl (ex_assign rfl) ?_
        refine JL_q (wants_none rfl) rfl (ex_assign rfl) ?_
        refine JL_nil ?_
        refine N_then ?_
        refine J_ret ?_
        refine N_inl2 hK14 rfl (rv_tmp rfl) (rv_tmp rfl) ?_
        refine JL_q (wants_none rfl) rfl (ex_extract rfl rfl) ?_
        refine JL_q (wants_none rfl) rfl (ex_extract rfl rfl) ?_
        refine JL_q (wants_none rfl) rfl (ex_assign rfl) ?_
        refine JL_q (wants_none rfl) rfl (ex_assign rfl) ?_
        refine JL_nil ?_
        refine N_then ?_
        refine J_ret ?_
        refine N_inl2 hK7 rfl (rv_tmp rfl) (rv_tmp rfl) ?_
        refine JL_q (wants_none rfl) rfl (ex_move rfl) ?_
        refine JL_q (wants_none rfl) rfl (ex_extract rfl rfl) ?_
        refine JL_q (wants_none rfl) rfl (ex_extract rfl rfl) ?_
        refine JL_q (wants_none rfl) rfl (ex_assign rfl) ?_
        refine JL_q (wants_none rfl) rfl (ex_assign rfl) ?_
        refine JL_nil ?_
        refine N_then ?_
        refine J_seq ?_
        refine J_block ?_
        refine J_seq ?_
        refine J_region ?_
        refine JL_q (wants_none rfl) rfl (ex_move rfl) ?_
        refine JL_q (wants_none rfl) rfl (ex_not rfl) ?_
        refine JL_q (wants_none rfl) rfl (ex_assign rfl) ?_
        refine JL_nil ?_
        refine N_then ?_
        refine J_if_false rfl (by rw [show (true) = true from rfl]; rfl) ?_
        refine J_seq ?_
        refine J_draw [] (by kernel_rfl) ?_
        refine JP_take (i := 0) [0, 1, 2, 3, 4, 5, 6, 7, 8, 9, 10, 11] [] rfl (by kernel_rfl) (by kernel_rfl) (by kernel_rfl) rfl rfl (wants_none rfl) rfl (ex_move rfl) ?_
        refine JP_take (i := 1) [0, 1, 2, 3, 4, 5, 6, 7, 8, 9, 10, 11] [] rfl (by kernel_rfl) (by kernel_rfl) (by kernel_rfl) rfl rfl (wants_none rfl) rfl (ex_nilCheck rfl) ?_
        refine JP_take (i := 2) [0, 1, 2, 3, 4, 5, 6, 7, 8, 9, 10, 11] [] rfl (by kernel_rfl) (by kernel_rfl) (by kernel_rfl) rfl rfl (wants_none rfl) rfl (ex_fieldAddr fi_92_0 rfl rfl) ?_
        refine JP_take (i := 3) [0, 1, 2, 3, 4, 5, 6, 7, 8, 9, 10, 11] [] rfl (by kernel_rfl) (by kernel_rfl) (by kernel_rfl) rfl rfl (wants_none rfl) rfl (ex_load_bx_agg 6 ti_28 rfl rfl rfl rfl) ?_
        refine JP_take (i := 4) [0, 1, 2, 3, 4, 5, 6, 7, 8, 9, 10, 11] [] rfl (by kernel_rfl) (by kernel_rfl) (by kernel_rfl) rfl rfl (wants_none rfl) rfl (ex_load_bx_agg 10 ti_39 rfl rfl rfl rfl) ?_
        refine JP_go [0, 1, 2, 3, 4, 5, 6, 7, 8, 9, 10, 11] [] rfl rfl rfl (fun w97 h1_98 hp96 => ?_)
        refine JD_bnd fun r99 hr100 => ?_
        refine JD_one (i := 5) (by kernel_rfl) ?_
        refine JO_call rfl (wants_none rfl) rfl Try.call63 rfl (Ca_of0 fun w hh => c_impl_configOf _ w (fun _ hk => hk.elim) _ _ (GMachine.rdmk (Rd.mk_int _ _ _) (Rd.mk_int _ _ _) (hh.ow0 3 rfl)) _ _ (GConfig.rdmk (Rd.mk_int _ _ _) (hh.rd0 8 rfl) (hh.rd0 9 rfl)) _ hr100) (fun _ => ?_)
        refine JD_take (i := 6) hp96 rfl (by kernel_rfl) (by kernel_rfl) (by kernel_rfl) (wants_none rfl) rfl (ex_not rfl) ?_
        refine JD_take (i := 7) hp96 rfl (by kernel_rfl) (by kernel_rfl) (by kernel_rfl) (wants_none rfl) rfl (ex_assign rfl) ?_
        refine JD_done (by kernel_rfl) ?_
        refine N_then ?_
        refine J_if rfl (fun h101 => ?_) (fun h101 => ?_)
        · refine J_seq ?_
          refine J_region ?_
          refine JL_q (wants_none rfl) rfl (ex_build si_39 rfl .nil (fun w hh => trivial)) ?_
          refine JL_sk (wants_none rfl) (sk_store_bx' 11 ti_39 rfl rfl (fun w hh => (cv_aggs ⟨cv_int, cv_slice, cv_slice, trivial⟩)) rfl rfl rfl rfl) ?_
          refine JL_q (wants_none rfl) rfl (ex_assign rfl) ?_
          refine JL_nil ?_
          refine N_then ?_
          refine J_ret ?_
          refine N_block_ret ?_
          refine N_then_ret ?_
          refine N_ctx (fun w hh => SH.ow_nil (α := Int) 2 hh) ?_
          refine N_ctx (fun w hh => hh.tokf 0 rfl rfl) ?_
          refine N_ctx (fun w hh => SH.ow_nil (α := Int) 2 hh) ?_
          exact N_ret2 rfl (rv_cell 14 rfl rfl ti_39 rfl) (rv_tmp rfl) (fun w hh => ⟨((.slice none 0 0 : Value), ((.slice none 0 0 : Value).ownBlock.toList ++ []), (.slice none 0 0 : Value)), rfl, hh.sel [1, 0] rfl⟩)
        · refine J_seq ?_
          refine J_draw [] (by kernel_rfl) ?_
          refine JP_take (i := 0) [0, 1, 2, 3, 4, 5, 6, 7, 8, 9, 10, 11] [] rfl (by kernel_rfl) (by kernel_rfl) (by kernel_rfl) rfl rfl (wants_none rfl) rfl (ex_move rfl) ?_
          refine JP_take (i := 1) [0, 1, 2, 3, 4, 5, 6, 7, 8, 9, 10, 11] [] rfl (by kernel_rfl) (by kernel_rfl) (by kernel_rfl) rfl rfl (wants_none rfl) rfl (ex_nilCheck rfl) ?_
          refine JP_take (i := 2) [0, 1, 2, 3, 4, 5, 6, 7, 8, 9, 10, 11] [] rfl (by kernel_rfl) (by kernel_rfl) (by kernel_rfl) rfl rfl (wants_none rfl) rfl (ex_fieldAddr fi_92_1 rfl rfl) ?_
          refine JP_take (i := 3) [0, 1, 2, 3, 4, 5, 6, 7, 8, 9, 10, 11] [] rfl (by kernel_rfl) (by kernel_rfl) (by kernel_rfl) rfl rfl (wants_none rfl) rfl (ex_load_bx 6 ti_89 rfl rfl rfl) ?_
          refine JP_take (i := 4) [0, 1, 2, 3, 4, 5, 6, 7, 8, 9, 10, 11] [] rfl (by kernel_rfl) (by kernel_rfl) (by kernel_rfl) rfl rfl (wants_none rfl) rfl (ex_fieldAddr fi_39_0 rfl rfl) ?_
          refine JP_take (i := 5) [0, 1, 2, 3, 4, 5, 6, 7, 8, 9, 10, 11] [] rfl (by kernel_rfl) (by kernel_rfl) (by kernel_rfl) rfl rfl (wants_none rfl) rfl (ex_load_bx 10 ti_2 rfl rfl rfl) ?_
          refine JP_bnd fun y102 hy103 => ?_
          refine JP_ctx (fun w hh => hh.tokf 4 rfl rfl) ?_
          refine JP_sq (i := 6) [] rfl (by kernel_rfl) (by kernel_rfl) (by kernel_rfl) rfl (wants_none rfl) rfl (sq_index 5 Try.underlying89 ti_60 rfl rfl rfl hy103) (fun q104 => ?_)
          refine JP_sq (i := 7) [] rfl (by kernel_rfl) (by kernel_rfl) (by kernel_rfl) rfl (wants_none rfl) rfl (sq_field_pt 0 (GbitPlace.at_kind _) fi_60_0 rfl rfl rfl) (fun q105 => ?_)
          refine JP_sq (i := 8) [] rfl (by kernel_rfl) (by kernel_rfl) (by kernel_rfl) rfl (wants_none rfl) rfl (sq_load_pt_o 0 (opens_int _) ti_2 rfl rfl) (fun _ => ?_)
          refine JP_take (i := 9) [0, 1, 2, 3, 4, 5, 6, 7, 8, 9, 10, 11, 12, 13, 14] [] rfl (by kernel_rfl) (by kernel_rfl) (by kernel_rfl) rfl rfl (wants_none rfl) rfl (ex_neq rfl rfl) ?_
          refine JP_take (i := 10) [0, 1, 2, 3, 4, 5, 6, 7, 8, 9, 10, 11, 12, 13, 14] [] rfl (by kernel_rfl) (by kernel_rfl) (by kernel_rfl) rfl rfl (wants_none rfl) rfl (ex_assign rfl) ?_
          refine JP_go [] [] rfl rfl rfl (fun _ _ _ => ?_)
          refine JD_done (by kernel_rfl) ?_
          refine N_then ?_
          refine J_if rfl (fun h107 => ?_) (fun h107 => ?_)
          · refine J_seq ?_
            refine J_region ?_
            refine JL_q (wants_none rfl) rfl (ex_build si_39 rfl .nil (fun w hh => trivial)) ?_
            refine JL_sk (wants_none rfl) (sk_store_bx' 14 ti_39 rfl rfl (fun w hh => (cv_aggs ⟨cv_int, cv_slice, cv_slice, trivial⟩)) rfl rfl rfl rfl) ?_
            refine JL_q (wants_none rfl) rfl (ex_assign rfl) ?_
            refine JL_nil ?_
            refine N_then ?_
            refine J_ret ?_
            refine N_block_ret ?_
            refine N_then_ret ?_
            refine N_ctx (fun w hh => SH.ow_nil (α := Int) 2 hh) ?_
            refine N_ctx (fun w hh => hh.tokf 0 rfl rfl) ?_
            refine N_ctx (fun w hh => SH.ow_nil (α := Int) 2 hh) ?_
            exact N_ret2 rfl (rv_cell 17 rfl rfl ti_39 rfl) (rv_tmp rfl) (fun w hh => ⟨((.slice none 0 0 : Value), ((.slice none 0 0 : Value).ownBlock.toList ++ []), (.slice none 0 0 : Value)), rfl, hh.sel [1, 0] rfl⟩)
          · refine J_skip ?_
            refine N_block ?_
            refine N_then ?_
            refine J_seq ?_
            refine J_region ?_
            refine JL_q (wants_none rfl) rfl (ex_load_bx_agg 10 ti_28 rfl rfl rfl rfl) ?_
            refine JL_q (wants_none rfl) rfl (ex_move rfl) ?_
            refine JL_q (wants_none rfl) rfl (ex_load_bx_agg 13 ti_39 rfl rfl rfl rfl) ?_
            refine JL_inline (wants_none rfl) rfl Try.call64 rfl Try.func64 rfl Try.ntmps64 rfl rfl (fun K_ hK108 => ?_)
            refine J_seq ?_
            refine J_region ?_
            refine JL_st (wants_none rfl) rfl (st_box' rfl (fun w hh => (cv_aggs ⟨cv_int, cv_int, (hh.cv 3 rfl), trivial⟩))) (fun b109 => ?_)
            refine JL_st (wants_none rfl) rfl (st_box' rfl (fun w hh => (cv_aggs ⟨cv_int, (hh.cv 12 rfl), (hh.cv 13 rfl), trivial⟩))) (fun b110 => ?_)
            refine JL_st (wants_none rfl) rfl (st_alloc zi_39 rfl) (fun b111 => ?_)
            refine JL_q (wants_none rfl) rfl (ex_assign rfl) ?_
            refine JL_nil ?_
            refine N_then ?_
            refine J_seq ?_
            refine J_cut' (S' := Int × Int × Int × Int × Int) (G' := Nat) (fun s112 g113 => [(3, .pointer (some ⟨b109, 0, none⟩)), (5, .pointer (some ⟨b110, 0, none⟩)), (6, .pointer (some ⟨b111, 0, none⟩)), (8, .pointer (some ⟨g113, 0, none⟩)), (9, .int .i64 s112.2.2.2.2)]) (fun s112 g113 => [.rd v0_0 p0.Rules, .bx b109 28 [.int .i64 p0.Symbols, .int .i64 p0.States, v0_0], .rd v1_0 p1.Left, .rd v1_1 p1.Right, .bx b110 39 [.int .i64 p1.State, v1_0, v1_1], .bx b111 39 [.int .i64 0, .slice none 0 0, .slice none 0 0], .bx g113 60 [.int .i64 s112.1, .int .i64 s112.2.1, .int .i64 s112.2.2.1, .int .i64 s112.2.2.2.1], .bx b3 39 [.int .i64 0, .slice none 0 0, .slice none 0 0]]) ?_ (fun s112 g113 => ?_)
            · refine J_draw [] (by kernel_rfl) ?_
              refine JP_take (i := 0) [0, 1, 2, 3, 4, 5, 6, 7, 8, 9, 10, 11, 12, 13, 14, 15, 16, 17] [] rfl (by kernel_rfl) (by kernel_rfl) (by kernel_rfl) rfl rfl (wants_none rfl) rfl (ex_move rfl) ?_
              refine JP_take (i := 1) [0, 1, 2, 3, 4, 5, 6, 7, 8, 9, 10, 11, 12, 13, 14, 15, 16, 17] [] rfl (by kernel_rfl) (by kernel_rfl) (by kernel_rfl) rfl rfl (wants_none rfl) rfl (ex_nilCheck rfl) ?_
              refine JP_take (i := 2) [0, 1, 2, 3, 4, 5, 6, 7, 8, 9, 10, 11, 12, 13, 14, 15, 16, 17] [] rfl (by kernel_rfl) (by kernel_rfl) (by kernel_rfl) rfl rfl (wants_none rfl) rfl (ex_fieldAddr fi_92_1 rfl rfl) ?_
              refine JP_take (i := 3) [0, 1, 2, 3, 4, 5, 6, 7, 8, 9, 10, 11, 12, 13, 14, 15, 16, 17] [] rfl (by kernel_rfl) (by kernel_rfl) (by kernel_rfl) rfl rfl (wants_none rfl) rfl (ex_load_bx 12 ti_89 rfl rfl rfl) ?_
              refine JP_take (i := 4) [0, 1, 2, 3, 4, 5, 6, 7, 8, 9, 10, 11, 12, 13, 14, 15, 16, 17] [] rfl (by kernel_rfl) (by kernel_rfl) (by kernel_rfl) rfl rfl (wants_none rfl) rfl (ex_fieldAddr fi_39_0 rfl rfl) ?_
              refine JP_take (i := 5) [0, 1, 2, 3, 4, 5, 6, 7, 8, 9, 10, 11, 12, 13, 14, 15, 16, 17] [] rfl (by kernel_rfl) (by kernel_rfl) (by kernel_rfl) rfl rfl (wants_none rfl) rfl (ex_load_bx 1 ti_2 rfl rfl rfl) ?_
              refine JP_bnd fun y114 hy115 => ?_
              refine JP_sq (i := 6) [] rfl (by kernel_rfl) (by kernel_rfl) (by kernel_rfl) rfl (wants_none rfl) rfl (sq_index 10 Try.underlying89 ti_60 rfl rfl rfl hy115) (fun q116 => ?_)
              refine JP_sq (i := 7) [] rfl (by kernel_rfl) (by kernel_rfl) (by kernel_rfl) rfl (wants_none rfl) rfl (sq_load_pt_o 0 (GbitPlace.opens _) ti_60 rfl rfl) (fun _ => ?_)
              refine JP_take (i := 8) [0, 1, 2, 3, 4, 5, 6, 7, 8, 9, 10, 11, 12, 13, 14, 15, 16, 17, 18] [] rfl (by kernel_rfl) (by kernel_rfl) (by kernel_rfl) rfl rfl (wants_none rfl) rfl (ex_load_bx_agg 3 ti_28 rfl rfl rfl rfl) ?_
              refine JP_go [0, 1, 2, 3, 4, 5, 6, 7, 8, 9, 10, 11, 12, 13, 14, 15, 16, 17, 18] [] rfl rfl rfl (fun w119 h1_120 hp118 => ?_)
              refine JD_bnd fun r121 hr122 => ?_
              refine JD_two (i := 9) (j := 10) (by kernel_rfl) ?_ ?_
              · refine JO_call rfl (wants_none rfl) rfl Try.call55 rfl (Ca_of0 fun w hh => c_impl_bitsOf _ w (fun _ hk => hk.elim) _ _ (GMachine.rdmk (Rd.mk_int _ _ _) (Rd.mk_int _ _ _) (hh.rd0 7 rfl)) _ hr122) (fun _ => ?_)
                refine JD_one (i := 10) (by kernel_rfl) ?_
                refine JO_st rfl (wants_none rfl) rfl (st_alloc zi_60 rfl) (fun _ hk => nomatch hk) (fun b123 => ?_)
                refine JD_one (i := 11) (by kernel_rfl) ?_
                refine JO_sk2 0 [] [0, 1, 2, 3, 4, 5, 6, 7, 8, 9, 10, 11, 12, 13, 14, 15, 16, 17, 18] [1, 2, 3, 4, 5, 6, 7, 8, 9, 10, 11, 12, 13, 14, 15, 16, 17, 18, 19] rfl rfl rfl rfl rfl rfl (wants_none rfl) (sk_store_bx' 0 ti_60 rfl rfl (fun w hh => (cv_aggs ⟨cv_int, cv_int, cv_int, cv_int, trivial⟩)) rfl rfl rfl rfl) (fun _ hk => hk) ?_
                refine JD_take (i := 12) hp118 rfl (by kernel_rfl) (by kernel_rfl) (by kernel_rfl) (wants_none rfl) rfl (ex_assign rfl) ?_
                refine JD_done (by kernel_rfl) ?_
                exact N_meet' b123 ⟨rfl, rfl, rfl, rfl, rfl, trivial⟩ [8, 4, 16, 17, 3, 2, 0, 19] rfl rfl
              · refine JO_st rfl (wants_none rfl) rfl (st_alloc zi_60 rfl) (fun _ hk => nomatch hk) (fun b124 => ?_)
                refine JD_one (i := 9) (by kernel_rfl) ?_
                refine JO_call rfl (wants_none rfl) rfl Try.call55 rfl (Ca_of0 fun w hh => c_impl_bitsOf _ w (fun _ hk => hk.elim) _ _ (GMachine.rdmk (Rd.mk_int _ _ _) (Rd.mk_int _ _ _) (hh.rd0 8 rfl)) _ hr122) (fun _ => ?_)
                refine JD_one (i := 11) (by kernel_rfl) ?_
                refine JO_sk2 0 [] [0, 1, 2, 3, 4, 5, 6, 7, 8, 9, 10, 11, 12, 13, 14, 15, 16, 17, 18] [1, 2, 3, 4, 5, 6, 7, 8, 9, 10, 11, 12, 13, 14, 15, 16, 17, 18, 19] rfl rfl rfl rfl rfl rfl (wants_none rfl) (sk_store_bx' 0 ti_60 rfl rfl (fun w hh => (cv_aggs ⟨cv_int, cv_int, cv_int, cv_int, trivial⟩)) rfl rfl rfl rfl) (fun _ hk => hk) ?_
                refine JD_take (i := 12) hp118 rfl (by kernel_rfl) (by kernel_rfl) (by kernel_rfl) (wants_none rfl) rfl (ex_assign rfl) ?_
                refine JD_done (by kernel_rfl) ?_
                exact N_meet' b124 ⟨rfl, rfl, rfl, rfl, rfl, trivial⟩ [8, 4, 16, 17, 3, 2, 0, 19] rfl rfl
            · refine N_then ?_
              refine J_seq ?_
              refine J_draw [] (by kernel_rfl) ?_
              refine JP_take (i := 0) [0, 1, 2, 3, 4, 5, 6, 7] [] rfl (by kernel_rfl) (by kernel_rfl) (by kernel_rfl) rfl rfl (wants_none rfl) rfl (ex_fieldAddr fi_39_1 rfl rfl) ?_
              refine JP_take (i := 1) [0, 1, 2, 3, 4, 5, 6, 7] [] rfl (by kernel_rfl) (by kernel_rfl) (by kernel_rfl) rfl rfl (wants_none rfl) rfl (ex_load_bx 4 ti_35 rfl rfl rfl) ?_
              refine JP_take (i := 3) [0, 1, 2, 3, 4, 5, 6, 7] [] rfl (by kernel_rfl) (by kernel_rfl) (by kernel_rfl) rfl rfl (wants_none rfl) rfl (ex_fieldAddr fi_39_2 rfl rfl) ?_
              refine JP_take (i := 4) [0, 1, 2, 3, 4, 5, 6, 7] [] rfl (by kernel_rfl) (by kernel_rfl) (by kernel_rfl) rfl rfl (wants_none rfl) rfl (ex_load_bx 4 ti_35 rfl rfl rfl) ?_
              refine JP_go [0, 1, 2, 3, 4, 5, 6, 7] [] rfl rfl rfl (fun w126 h1_127 hp125 => ?_)
              refine JD_bnd fun r128 hr129 => ?_
              refine JD_one (i := 2) (by kernel_rfl) ?_
              refine JO_call rfl (wants_none rfl) rfl Try.call86 rfl (Ca_self (fun _ => rfl) fun w hh => c_slices_Clone_Sint64_int64 _ w (fun _ hk => hk.elim) _ _ (hh.rd0 2 rfl) _ hr129) (fun x130 => ?_)
              refine JD_bnd fun r131 hr132 => ?_
              refine JD_one (i := 5) (by kernel_rfl) ?_
              refine JO_call rfl (wants_none rfl) rfl Try.call86 rfl (Ca_self (fun _ => rfl) fun w hh => c_slices_Clone_Sint64_int64 _ w (fun _ hk => hk.elim) _ _ (hh.rd0 4 rfl) _ hr132) (fun x133 => ?_)
              refine JD_take (i := 6) hp125 rfl (by kernel_rfl) (by kernel_rfl) (by kernel_rfl) (wants_none rfl) rfl (ex_assign rfl) ?_
              refine JD_take (i := 7) hp125 rfl (by kernel_rfl) (by kernel_rfl) (by kernel_rfl) (wants_none rfl) rfl (ex_assign rfl) ?_
              refine JD_done (by kernel_rfl) ?_
              refine N_then ?_
              refine J_seq ?_
              refine J_seq ?_
              refine J_region ?_
              refine JL_q (wants_none rfl) rfl (ex_fieldAddr fi_60_2 rfl rfl) ?_
              refine JL_q (wants_none rfl) rfl (ex_load_bx 8 ti_2 rfl rfl rfl) ?_
              refine JL_q (wants_none rfl) rfl (ex_move rfl) ?_
              refine JL_nil ?_
              refine N_then ?_
              refine J_ctx (fun w hh => hh.tokf 1 rfl rfl) ?_
              refine J_loop' (S := (List Int) × (List Int) × Int) (G := Value × Value) (F_impl_DecodeBinary_L3 s112) (fun s134 g135 => [(3, .pointer (some ⟨b109, 0, none⟩)), (6, .pointer (some ⟨b111, 0, none⟩)), (8, .pointer (some ⟨g113, 0, none⟩)), (9, .int .i64 s112.2.2.2.2), (10, g135.1), (11, g135.2), (34, .int .i64 s112.2.2.1), (35, .int .i64 s134.2.2)]) (fun s134 g135 => [.rd v0_0 p0.Rules, .bx b109 28 [.int .i64 p0.Symbols, .int .i64 p0.States, v0_0], .bx b111 39 [.int .i64 0, .slice none 0 0, .slice none 0 0], .bx g113 60 [.int .i64 s112.1, .int .i64 s112.2.1, .int .i64 s112.2.2.1, .int .i64 s112.2.2.2.1], .rd g135.1 s134.1, .ow 2 g135.2 s134.2.1, .bx b3 39 [.int .i64 0, .slice none 0 0, .slice none 0 0]]) (r128, r131, 0) (x130, x133) ⟨rfl, rfl, rfl, rfl, rfl, rfl, rfl, rfl, trivial⟩ [3, 4, 8, 9, 2, 1, 10] rfl rfl (fun s134 g135 => ?_) (fun s134 g135 => ?_)
              · obtain ⟨g135_0, g135_1⟩ := g135
                unfold F_impl_DecodeBinary_L3
                refine J_seq ?_
                refine J_region ?_
                refine JL_q (wants_none rfl) rfl (ex_lss rfl rfl) ?_
                refine JL_nil ?_
                refine N_then ?_
                refine J_seq ?_
                refine J_if rfl (fun h136 => ?_) (fun h136 => ?_)
                · refine J_skip ?_
                  refine N_then ?_
                  refine J_seq ?_
                  refine J_block ?_
                  refine J_seq ?_
                  refine J_region ?_
                  refine JL_q (wants_none rfl) rfl (ex_assign rfl) ?_
                  refine JL_nil ?_
                  refine N_then ?_
                  refine J_seq ?_
                  refine J_seq ?_
                  refine J_region ?_
                  refine JL_q (wants_none rfl) rfl (ex_move rfl) ?_
                  refine JL_q (wants_none rfl) rfl (ex_len_rd 4 Try.underlying35 rfl rfl) ?_
                  refine JL_q (wants_none rfl) rfl (ex_gtr rfl rfl) ?_
                  refine JL_nil ?_
                  refine N_then ?_
                  refine J_if rfl (fun h137 => ?_) (fun h137 => ?_)
                  · refine J_draw [] (by kernel_rfl) ?_
                    refine JP_take (i := 0) [0, 1, 2, 3, 4, 5, 6] [] rfl (by kernel_rfl) (by kernel_rfl) (by kernel_rfl) rfl rfl (wants_none rfl) rfl (ex_move rfl) ?_
                    refine JP_bnd fun y138 hy139 => ?_
                    refine JP_sq (i := 1) [] rfl (by kernel_rfl) (by kernel_rfl) (by kernel_rfl) rfl (wants_none rfl) rfl (sq_index 4 Try.underlying35 ti_2 rfl rfl rfl hy139) (fun q140 => ?_)
                    refine JP_sq (i := 2) [] rfl (by kernel_rfl) (by kernel_rfl) (by kernel_rfl) rfl (wants_none rfl) rfl (sq_load_pt_o 0 (opens_int _) ti_2 rfl rfl) (fun _ => ?_)
                    refine JP_take (i := 3) [0, 1, 2, 3, 4, 5, 6, 7] [] rfl (by kernel_rfl) (by kernel_rfl) (by kernel_rfl) rfl rfl (wants_none rfl) rfl (ex_move rfl) ?_
                    refine JP_bnd fun z142 hz143 => ?_
                    refine JP_sq (i := 4) [] rfl (by kernel_rfl) (by kernel_rfl) (by kernel_rfl) rfl (wants_none rfl) rfl (sq_slice 5 Try.underlying35 ti_2 rfl rfl rfl rfl hz143) (fun v144 => ?_)
                    refine JP_take (i := 5) [0, 1, 2, 3, 4, 5, 6, 7, 8] [] rfl (by kernel_rfl) (by kernel_rfl) (by kernel_rfl) rfl rfl (wants_none rfl) rfl (ex_assign rfl) ?_
                    refine JP_take (i := 6) [0, 1, 2, 3, 4, 5, 6, 7, 8] [] rfl (by kernel_rfl) (by kernel_rfl) (by kernel_rfl) rfl rfl (wants_none rfl) rfl (ex_assign rfl) ?_
                    refine JP_go [] [] rfl rfl rfl (fun _ _ _ => ?_)
                    refine JD_done (by kernel_rfl) ?_
                    refine N_then ?_
                    refine J_region ?_
                    refine JL_q (wants_none rfl) rfl (ex_move rfl) ?_
                    refine JL_st (wants_none rfl) rfl (st_buildSlice (vs := [.int .i64 y138]) ([y138] : List Int) Try.underlying35 ti_2 zi_2 rfl rfl rfl (fun w hh => ⟨(Rd.mk_int _ _ _), trivial⟩)) (fun b145 => ?_)
                    refine JL_q (wants_none rfl) rfl (ex_move rfl) ?_
                    refine JL_ctx (fun w hh => hh.tokf 0 rfl rfl) ?_
                    refine JL_ctx (fun w hh => hh.tokf 9 rfl rfl) ?_
                    refine JL_st (wants_none rfl) rfl (st_buildSlice_od (vs := [(.slice (some ⟨b145, 0, none⟩) 1 1), g135_1]) (B := ((((.slice (some ⟨b145, 0, none⟩) 1 1) : Value).ownBlock.toList ++ []) ++ (((g135_1 : Value).ownBlock.toList ++ []) ++ []))) ([([y138] : List Int), s134.2.1] : List (List Int)) [1, 0] Try.underlying53 ti_35 zi_35 rfl rfl rfl rfl rfl (fun w hh => (dwv_cons (hh.dw 1 rfl) (dwv_cons (hh.dw 0 rfl) dwv_nil)))) (fun b146 => ?_)
                    refine JL_bnd fun r147 hr148 => ?_
                    refine JL_call (wants_none rfl) rfl Try.call89 rfl (Ca_self (fun _ => rfl) fun w hh => c_impl_joined _ w (fun _ hk => hk.elim) _ _ (hh.od0 0 rfl) _ hr148) (fun x149 => ?_)
                    refine JL_q (wants_none rfl) rfl (ex_assign rfl) ?_
                    refine JL_nil ?_
                    refine N_block ?_
                    refine N_then ?_
                    refine J_region ?_
                    refine JL_q (wants_none rfl) rfl (ex_add rfl rfl) ?_
                    refine JL_q (wants_none rfl) rfl (ex_move rfl) ?_
                    refine JL_nil ?_
                    exact N_next' (v144, x149) ⟨rfl, rfl, rfl, rfl, rfl, rfl, rfl, rfl, trivial⟩ [7, 8, 9, 10, 5, 0, 13] rfl rfl
                  · refine J_skip ?_
                    refine N_then ?_
                    refine J_region ?_
                    refine JL_q (wants_none rfl) rfl (ex_move rfl) ?_
                    refine JL_st (wants_none rfl) rfl (st_buildSlice (vs := [.int .i64 0]) ([0] : List Int) Try.underlying35 ti_2 zi_2 rfl rfl rfl (fun w hh => ⟨(Rd.mk_int _ _ _), trivial⟩)) (fun b150 => ?_)
                    refine JL_q (wants_none rfl) rfl (ex_move rfl) ?_
                    refine JL_ctx (fun w hh => hh.tokf 0 rfl rfl) ?_
                    refine JL_ctx (fun w hh => hh.tokf 7 rfl rfl) ?_
                    refine JL_st (wants_none rfl) rfl (st_buildSlice_od (vs := [(.slice (some ⟨b150, 0, none⟩) 1 1), g135_1]) (B := ((((.slice (some ⟨b150, 0, none⟩) 1 1) : Value).ownBlock.toList ++ []) ++ (((g135_1 : Value).ownBlock.toList ++ []) ++ []))) ([([0] : List Int), s134.2.1] : List (List Int)) [1, 0] Try.underlying53 ti_35 zi_35 rfl rfl rfl rfl rfl (fun w hh => (dwv_cons (hh.dw 1 rfl) (dwv_cons (hh.dw 0 rfl) dwv_nil)))) (fun b151 => ?_)
                    refine JL_bnd fun r152 hr153 => ?_
                    refine JL_call (wants_none rfl) rfl Try.call89 rfl (Ca_self (fun _ => rfl) fun w hh => c_impl_joined _ w (fun _ hk => hk.elim) _ _ (hh.od0 0 rfl) _ hr153) (fun x154 => ?_)
                    refine JL_q (wants_none rfl) rfl (ex_assign rfl) ?_
                    refine JL_nil ?_
                    refine N_block ?_
                    refine N_then ?_
                    refine J_region ?_
                    refine JL_q (wants_none rfl) rfl (ex_add rfl rfl) ?_
                    refine JL_q (wants_none rfl) rfl (ex_move rfl) ?_
                    refine JL_nil ?_
                    exact N_next' (g135_0, x154) ⟨rfl, rfl, rfl, rfl, rfl, rfl, rfl, rfl, trivial⟩ [5, 6, 7, 8, 9, 0, 11] rfl rfl
                · refine J_exit ?_
                  refine N_then_exit ?_
                  exact N_break' (g135_0, g135_1) ⟨rfl, rfl, rfl, rfl, rfl, rfl, rfl, rfl, trivial⟩ [0, 1, 2, 3, 4, 5, 6] rfl rfl
              · obtain ⟨g135_0, g135_1⟩ := g135
                refine N_then ?_
                refine J_seq ?_
                refine J_region ?_
                refine JL_q (wants_none rfl) rfl (ex_move rfl) ?_
                refine JL_q (wants_none rfl) rfl (ex_move rfl) ?_
                refine JL_q (wants_none rfl) rfl (ex_fieldAddr fi_28_0 rfl rfl) ?_
                refine JL_q (wants_none rfl) rfl (ex_load_bx 1 ti_2 rfl rfl rfl) ?_
                refine JL_bnd fun r155 hr156 => ?_
                refine JL_call (wants_none rfl) rfl Try.call90 rfl (Ca_self (fun _ => rfl) fun w hh => c_impl_decodedLeft _ w (fun _ hk => hk.elim) _ _ (hh.rd0 4 rfl) _ _ _ hr156) (fun x157 => ?_)
                obtain ⟨x157_0, x157_1⟩ := x157
                refine JL_ctx (fun w hh => hh.tkn_rd 0 rfl) ?_
                refine JL_q (wants_none rfl) rfl (ex_move rfl) ?_
                refine JL_q (wants_none rfl) rfl (ex_extract rfl rfl) ?_
                refine JL_q (wants_none rfl) rfl (ex_extract rfl rfl) ?_
                refine JL_q (wants_none rfl) rfl (ex_assign rfl) ?_
                refine JL_q (wants_none rfl) rfl (ex_assign rfl) ?_
                refine JL_nil ?_
                refine N_then ?_
                refine J_seq ?_
                refine J_region ?_
                refine JL_q (wants_none rfl) rfl (ex_move rfl) ?_
                refine JL_q (wants_none rfl) rfl (ex_move rfl) ?_
                refine JL_q (wants_none rfl) rfl (ex_fieldAddr fi_28_0 rfl rfl) ?_
                refine JL_q (wants_none rfl) rfl (ex_load_bx 3 ti_2 rfl rfl rfl) ?_
                refine JL_bnd fun r158 hr159 => ?_
                refine JL_call (wants_none rfl) rfl Try.call91 rfl (Ca_self (fun _ => rfl) fun w hh => c_impl_decodedSide _ w (fun _ hk => hk.elim) _ _ (hh.ow0 7 rfl) _ _ _ hr159) (fun x160 => ?_)
                refine JL_q (wants_none rfl) rfl (ex_move rfl) ?_
                refine JL_q (wants_none rfl) rfl (ex_extract rfl rfl) ?_
                refine JL_q (wants_none rfl) rfl (ex_extract rfl rfl) ?_
                refine JL_q (wants_none rfl) rfl (ex_assign rfl) ?_
                refine JL_q (wants_none rfl) rfl (ex_assign rfl) ?_
                refine JL_nil ?_
                refine N_then ?_
                refine J_seq ?_
                refine J_seq ?_
                refine J_region ?_
                refine JL_q (wants_none rfl) rfl (ex_move rfl) ?_
                refine JL_q (wants_none rfl) rfl (ex_not rfl) ?_
                refine JL_q (wants_none rfl) rfl (ex_move rfl) ?_
                refine JL_cond (fun h161 => ?_) (fun h161 => ?_)
                · refine JL_passed rfl rfl rfl h161 ?_
                  refine JL_passed rfl rfl rfl h161 ?_
                  refine JL_q (wants_none rfl) rfl (ex_pick_true rfl h161 rfl) ?_
                  refine JL_nil ?_
                  refine N_then ?_
                  refine J_if_true rfl rfl ?_
                  refine J_seq ?_
                  refine J_region ?_
                  refine JL_q (wants_none rfl) rfl (ex_build si_39 rfl .nil (fun w hh => trivial)) ?_
                  refine JL_sk (wants_none rfl) (sk_store_bx' 5 ti_39 rfl rfl (fun w hh => (cv_aggs ⟨cv_int, cv_slice, cv_slice, trivial⟩)) rfl rfl rfl rfl) ?_
                  refine JL_q (wants_none rfl) rfl (ex_assign rfl) ?_
                  refine JL_nil ?_
                  refine N_then ?_
                  refine J_ret ?_
                  refine N_then_ret ?_
                  refine N_inl2 hK108 rfl (rv_cell 5 rfl rfl ti_39 rfl) (rv_tmp rfl) ?_
                  refine JL_q (wants_none rfl) rfl (ex_extract rfl rfl) ?_
                  refine JL_q (wants_none rfl) rfl (ex_extract rfl rfl) ?_
                  refine JL_sk (wants_none rfl) (sk_store_bx' 9 ti_39 rfl rfl (fun w hh => (cv_aggs ⟨cv_int, cv_slice, cv_slice, trivial⟩)) rfl rfl rfl rfl) ?_
                  refine JL_q (wants_none rfl) rfl (ex_assign rfl) ?_
                  refine JL_nil ?_
                  refine N_then ?_
                  refine J_ret ?_
                  refine N_ctx (fun w hh => SH.ow_nil (α := Int) 2 hh) ?_
                  refine N_ctx (fun w hh => hh.tokf 0 rfl rfl) ?_
                  refine N_ctx (fun w hh => SH.ow_nil (α := Int) 2 hh) ?_
                  exact N_ret2 rfl (rv_cell 12 rfl rfl ti_39 rfl) (rv_tmp rfl) (fun w hh => ⟨((.slice none 0 0 : Value), ((.slice none 0 0 : Value).ownBlock.toList ++ []), (.slice none 0 0 : Value)), rfl, hh.sel [1, 0] rfl⟩)
                · refine JL_q (wants_some rfl rfl rfl h161) rfl (ex_move rfl) ?_
                  refine JL_q (wants_some rfl rfl rfl h161) rfl (ex_not rfl) ?_
                  refine JL_q (wants_none rfl) rfl (ex_pick_false rfl h161 rfl) ?_
                  refine JL_nil ?_
                  refine N_then ?_
                  refine J_if rfl (fun h162 => ?_) (fun h162 => ?_)
                  · refine J_seq ?_
                    refine J_region ?_
                    refine JL_q (wants_none rfl) rfl (ex_build si_39 rfl .nil (fun w hh => trivial)) ?_
                    refine JL_sk (wants_none rfl) (sk_store_bx' 5 ti_39 rfl rfl (fun w hh => (cv_aggs ⟨cv_int, cv_slice, cv_slice, trivial⟩)) rfl rfl rfl rfl) ?_
                    refine JL_q (wants_none rfl) rfl (ex_assign rfl) ?_
                    refine JL_nil ?_
                    refine N_then ?_
                    refine J_ret ?_
                    refine N_then_ret ?_
                    refine N_inl2 hK108 rfl (rv_cell 5 rfl rfl ti_39 rfl) (rv_tmp rfl) ?_
                    refine JL_q (wants_none rfl) rfl (ex_extract rfl rfl) ?_
                    refine JL_q (wants_none rfl) rfl (ex_extract rfl rfl) ?_
                    refine JL_sk (wants_none rfl) (sk_store_bx' 9 ti_39 rfl rfl (fun w hh => (cv_aggs ⟨cv_int, cv_slice, cv_slice, trivial⟩)) rfl rfl rfl rfl) ?_
                    refine JL_q (wants_none rfl) rfl (ex_assign rfl) ?_
                    refine JL_nil ?_
                    refine N_then ?_
                    refine J_ret ?_
                    refine N_ctx (fun w hh => SH.ow_nil (α := Int) 2 hh) ?_
                    refine N_ctx (fun w hh => hh.tokf 0 rfl rfl) ?_
                    refine N_ctx (fun w hh => SH.ow_nil (α := Int) 2 hh) ?_
                    exact N_ret2 rfl (rv_cell 12 rfl rfl ti_39 rfl) (rv_tmp rfl) (fun w hh => ⟨((.slice none 0 0 : Value), ((.slice none 0 0 : Value).ownBlock.toList ++ []), (.slice none 0 0 : Value)), rfl, hh.sel [1, 0] rfl⟩)
                  · refine J_skip ?_
                    refine N_then ?_
                    refine J_seq ?_
                    refine J_region ?_
                    refine JL_q (wants_none rfl) rfl (ex_fieldAddr fi_60_1 rfl rfl) ?_
                    refine JL_q (wants_none rfl) rfl (ex_load_bx 6 ti_2 rfl rfl rfl) ?_
                    refine JL_q (wants_none rfl) rfl (ex_move rfl) ?_
                    refine JL_q (wants_none rfl) rfl (ex_move rfl) ?_
                    refine JL_q (wants_none rfl) rfl (ex_build si_39 rfl (.cons fi_39_0 rfl rfl (.cons fi_39_1 rfl rfl (.cons fi_39_2 rfl rfl .nil))) (fun w hh => ⟨cv_int, (hh.cv 1 rfl), (hh.cv_ow 0 rfl), trivial⟩)) ?_
                    refine JL_sk (wants_none rfl) (sk_store_bx' 5 ti_39 rfl rfl (fun w hh => (cv_aggs ⟨cv_int, (hh.cv 1 rfl), (hh.cv_ow 0 rfl), trivial⟩)) rfl rfl rfl rfl) ?_
                    refine JL_q (wants_none rfl) rfl (ex_assign rfl) ?_
                    refine JL_nil ?_
                    refine N_then ?_
                    refine J_ret ?_
                    refine N_inl2 hK108 rfl (rv_cell 5 rfl rfl ti_39 rfl) (rv_tmp rfl) ?_
                    refine JL_q (wants_none rfl) rfl (ex_extract rfl rfl) ?_
                    refine JL_q (wants_none rfl) rfl (ex_extract rfl rfl) ?_
                    refine JL_sk (wants_none rfl) (sk_store_bx' 9 ti_39 rfl rfl (fun w hh => (cv_aggs ⟨cv_int, (hh.cv 1 rfl), (hh.cv_ow 0 rfl), trivial⟩)) rfl rfl rfl rfl) ?_
                    refine JL_q (wants_none rfl) rfl (ex_assign rfl) ?_
                    refine JL_nil ?_
                    refine N_then ?_
                    refine J_ret ?_
                    exact N_ret2 rfl (rv_cell 9 rfl rfl ti_39 rfl) (rv_tmp rfl) (fun w hh => ⟨(x157_0, x157_1, x160), rfl, hh.sel [2, 0] rfl⟩)

set_option maxHeartbeats 40000000 in
theorem c_laws_FnExactDecodeBinary (A : Nat → Prop) (w : World) (hA : ∀ k, A k → k < w.heap.size) (v0_ : Value) (p0 : GMachine) (hp0 : Rd A w v0_ p0) (v1_ : Value) (p1 : GConfig) (hp1 : Rd A w v1_ p1) (r : Bool) (hr : F_laws_FnExactDecodeBinary p0 p1 = some r) :
    Con Try.prog 7 [v0_, v1_] A w (fun x_ : Unit => .bool r) (fun x_ => []) := by
  obtain ⟨v0_0, rfl, hp0_0⟩ := GMachine.open hp0
  obtain ⟨v1_0, v1_1, rfl, hp1_0, hp1_1⟩ := GConfig.open hp1
  refine Con_of (v := fun (r : Bool) (x_ : Unit) => .bool r) (fs := fun r x_ => []) Try.func7 rfl Try.ntmps7 rfl ((((SH.start hA).start_rd rfl hp0_0).start_rd rfl hp1_0).start_rd rfl hp1_1) rfl ?_ hr
  unfold F_laws_FnExactDecodeBinary
  refine J_seq ?_
  refine J_region ?_
  refine JL_st (wants_none rfl) rfl (st_box' rfl (fun w hh => (cv_aggs ⟨cv_int, cv_int, (hh.cv 2 rfl), trivial⟩))) (fun b1 => ?_)
  refine JL_st (wants_none rfl) rfl (st_box' rfl (fun w hh => (cv_aggs ⟨cv_int, (hh.cv 2 rfl), (hh.cv 1 rfl), trivial⟩))) (fun b2 => ?_)
  refine JL_q (wants_none rfl) rfl (ex_assign rfl) ?_
  refine JL_nil ?_
  refine N_then ?_
  refine J_seq ?_
  refine J_region ?_
  refine JL_q (wants_none rfl) rfl (ex_assign rfl) ?_
  refine JL_nil ?_
  refine N_then ?_
  refine J_seq ?_
  refine J_region ?_
  refine JL_q (wants_none rfl) rfl (ex_load_bx_agg 1 ti_24 rfl rfl rfl rfl) ?_
  refine JL_q (wants_none rfl) rfl (ex_move rfl) ?_
  refine JL_bnd fun r3 hr4 => ?_
  refine JL_call (wants_none rfl) rfl Try.call8 rfl (Ca_of0 fun w hh => c_laws_szMachine _ w (fun _ hk => hk.elim) _ _ (GMachine.rdmk (Rd.mk_int _ _ _) (Rd.mk_int _ _ _) (hh.rd0 4 rfl)) _ _ hr4) (fun _ => ?_)
  refine JL_q (wants_none rfl) rfl (ex_assign rfl) ?_
  refine JL_nil ?_
  refine N_then ?_
  refine J_seq ?_
  refine J_seq ?_
  refine J_region ?_
  refine JL_q (wants_none rfl) rfl (ex_move rfl) ?_
  refine JL_q (wants_none rfl) rfl (ex_lss rfl rfl) ?_
  refine JL_nil ?_
  refine N_then ?_
  refine J_if rfl (fun h5 => ?_) (fun h5 => ?_)
  · refine J_seq ?_
    refine J_region ?_
    refine JL_q (wants_none rfl) rfl (ex_assign rfl) ?_
    refine JL_nil ?_
    refine N_then ?_
    refine J_ret ?_
    refine N_then_ret ?_
    exact N_ret1 rfl (rv_tmp rfl) (fun w hh => ⟨(), rfl, hh.sel [] rfl⟩)
  · refine J_skip ?_
    refine N_then ?_
    refine J_seq ?_
    refine J_region ?_
    refine JL_q (wants_none rfl) rfl (ex_load_bx_agg 0 ti_37 rfl rfl rfl rfl) ?_
    refine JL_q (wants_none rfl) rfl (ex_move rfl) ?_
    refine JL_bnd fun r6 hr7 => ?_
    refine JL_call (wants_none rfl) rfl Try.call17 rfl (Ca_of0 fun w hh => c_laws_szConfig _ w (fun _ hk => hk.elim) _ _ (GConfig.rdmk (Rd.mk_int _ _ _) (hh.rd0 3 rfl) (hh.rd0 2 rfl)) _ _ hr7) (fun _ => ?_)
    refine JL_q (wants_none rfl) rfl (ex_assign rfl) ?_
    refine JL_nil ?_
    refine N_then ?_
    refine J_seq ?_
    refine J_seq ?_
    refine J_region ?_
    refine JL_q (wants_none rfl) rfl (ex_move rfl) ?_
    refine JL_q (wants_none rfl) rfl (ex_lss rfl rfl) ?_
    refine JL_nil ?_
    refine N_then ?_
    refine J_if rfl (fun h8 => ?_) (fun h8 => ?_)
    · refine J_seq ?_
      refine J_region ?_
      refine JL_q (wants_none rfl) rfl (ex_assign rfl) ?_
      refine JL_nil ?_
      refine N_then ?_
      refine J_ret ?_
      refine N_then_ret ?_
      exact N_ret1 rfl (rv_tmp rfl) (fun w hh => ⟨(), rfl, hh.sel [] rfl⟩)
    · refine J_skip ?_
      refine N_then ?_
      refine J_seq ?_
      refine J_cut' (S' := Int × (List Int) × (List Int) × Int) (G' := Value × Value × Nat) (fun s9 g10 => [(2, .pointer (some ⟨b1, 0, none⟩)), (3, .pointer (some ⟨b2, 0, none⟩)), (6, .pointer (some ⟨g10.2.2, 0, none⟩)), (7, .int .i64 s9.2.2.2)]) (fun s9 g10 => [.rd v0_0 p0.Rules, .bx b1 24 [.int .i64 p0.Symbols, .int .i64 p0.States, v0_0], .rd v1_0 p1.Left, .rd v1_1 p1.Right, .bx b2 37 [.int .i64 p1.State, v1_0, v1_1], .ow 2 g10.1 s9.2.1, .ow 2 g10.2.1 s9.2.2.1, .bx g10.2.2 39 [.int .i64 s9.1, g10.1, g10.2.1]]) ?_ (fun s9 g10 => ?_)
      · refine J_draw [] (by kernel_rfl) ?_
        refine JP_take (i := 0) [0, 1, 2, 3, 4] [] rfl (by kernel_rfl) (by kernel_rfl) (by kernel_rfl) rfl rfl (wants_none rfl) rfl (ex_load_bx_agg 1 ti_24 rfl rfl rfl rfl) ?_
        refine JP_take (i := 2) [0, 1, 2, 3, 4] [] rfl (by kernel_rfl) (by kernel_rfl) (by kernel_rfl) rfl rfl (wants_none rfl) rfl (ex_load_bx_agg 0 ti_37 rfl rfl rfl rfl) ?_
        refine JP_go [0, 1, 2, 3, 4] [] rfl rfl rfl (fun w12 h1_13 hp11 => ?_)
        refine JD_bnd fun r14 hr15 => ?_
        refine JD_two (i := 1) (j := 8) (by kernel_rfl) ?_ ?_
        · refine JO_call rfl (wants_none rfl) rfl Try.call10 rfl (Ca_self (fun _ => rfl) fun w hh => c_laws_toMachine _ w (fun _ hk => hk.elim) _ _ (GMachine.rdmk (Rd.mk_int _ _ _) (Rd.mk_int _ _ _) (hh.rd0 4 rfl)) _ hr15) (fun x16 => ?_)
          refine JD_bnd fun r17 hr18 => ?_
          refine JD_two (i := 3) (j := 8) (by kernel_rfl) ?_ ?_
          · refine JO_call rfl (wants_none rfl) rfl Try.call19 rfl (Ca_self (fun _ => rfl) fun w hh => c_laws_toConfig _ w (fun _ hk => hk.elim) _ _ (GConfig.rdmk (Rd.mk_int _ _ _) (hh.rd0 4 rfl) (hh.rd0 3 rfl)) _ hr18) (fun x19 => ?_)
            obtain ⟨x19_0, x19_1⟩ := x19
            refine JD_bnd fun r20 hr21 => ?_
            refine JD_two (i := 4) (j := 8) (by kernel_rfl) ?_ ?_
            · refine JO_call rfl (wants_none rfl) rfl Try.call26 rfl (Ca_self (fun _ => rfl) fun w hh => c_spec_DecodeBinary _ w (fun _ hk => hk.elim) _ _ (GMachine.rdmk (Rd.mk_int _ _ _) (Rd.mk_int _ _ _) (hh.ow0 2 rfl)) _ _ (GConfig.rdmk (Rd.mk_int _ _ _) (hh.ow0 0 rfl) (hh.ow0 1 rfl)) _ hr21) (fun x22 => ?_)
              obtain ⟨x22_0, x22_1⟩ := x22
              refine JD_take (i := 5) hp11 rfl (by kernel_rfl) (by kernel_rfl) (by kernel_rfl) (wants_none rfl) rfl (ex_move rfl) ?_
              refine JD_take (i := 6) hp11 rfl (by kernel_rfl) (by kernel_rfl) (by kernel_rfl) (wants_none rfl) rfl (ex_extract rfl rfl) ?_
              refine JD_take (i := 7) hp11 rfl (by kernel_rfl) (by kernel_rfl) (by kernel_rfl) (wants_none rfl) rfl (ex_extract rfl rfl) ?_
              refine JD_one (i := 8) (by kernel_rfl) ?_
              refine JO_st rfl (wants_none rfl) rfl (st_alloc zi_39 rfl) (fun _ hk => nomatch hk) (fun b23 => ?_)
              refine JD_one (i := 9) (by kernel_rfl) ?_
              refine JO_sk2 0 [] [0, 1, 2, 3, 4] [6, 7, 8, 9, 10] rfl rfl rfl rfl rfl rfl (wants_none rfl) (sk_store_bx' 0 ti_39 rfl rfl (fun w hh => (cv_aggs ⟨cv_int, (hh.cv_ow 1 rfl), (hh.cv_ow 2 rfl), trivial⟩)) rfl rfl rfl rfl) (fun _ hk => hk) ?_
              refine JD_take (i := 10) hp11 rfl (by kernel_rfl) (by kernel_rfl) (by kernel_rfl) (wants_none rfl) rfl (ex_assign rfl) ?_
              refine JD_done (by kernel_rfl) ?_
              exact N_meet' (x22_0, x22_1, b23) ⟨rfl, rfl, rfl, rfl, trivial⟩ [10, 7, 9, 8, 6, 1, 2, 0] rfl rfl
            · refine JO_st rfl (wants_none rfl) rfl (st_alloc zi_39 rfl) (fun _ hk => nomatch hk) (fun b24 => ?_)
              refine JD_one (i := 4) (by kernel_rfl) ?_
              refine JO_call rfl (wants_none rfl) rfl Try.call26 rfl (Ca_self (fun _ => rfl) fun w hh => c_spec_DecodeBinary _ w (fun _ hk => hk.elim) _ _ (GMachine.rdmk (Rd.mk_int _ _ _) (Rd.mk_int _ _ _) (hh.ow0 3 rfl)) _ _ (GConfig.rdmk (Rd.mk_int _ _ _) (hh.ow0 1 rfl) (hh.ow0 2 rfl)) _ hr21) (fun x25 => ?_)
              obtain ⟨x25_0, x25_1⟩ := x25
              refine JD_take (i := 5) hp11 rfl (by kernel_rfl) (by kernel_rfl) (by kernel_rfl) (wants_none rfl) rfl (ex_move rfl) ?_
              refine JD_take (i := 6) hp11 rfl (by kernel_rfl) (by kernel_rfl) (by kernel_rfl) (wants_none rfl) rfl (ex_extract rfl rfl) ?_
              refine JD_take (i := 7) hp11 rfl (by kernel_rfl) (by kernel_rfl) (by kernel_rfl) (wants_none rfl) rfl (ex_extract rfl rfl) ?_
              refine JD_one (i := 9) (by kernel_rfl) ?_
              refine JO_sk2 2 [] [0, 1, 2, 3, 4] [6, 7, 8, 9, 10] rfl rfl rfl rfl rfl rfl (wants_none rfl) (sk_store_bx' 2 ti_39 rfl rfl (fun w hh => (cv_aggs ⟨cv_int, (hh.cv_ow 0 rfl), (hh.cv_ow 1 rfl), trivial⟩)) rfl rfl rfl rfl) (fun _ hk => hk) ?_
              refine JD_take (i := 10) hp11 rfl (by kernel_rfl) (by kernel_rfl) (by kernel_rfl) (wants_none rfl) rfl (ex_assign rfl) ?_
              refine JD_done (by kernel_rfl) ?_
              exact N_meet' (x25_0, x25_1, b24) ⟨rfl, rfl, rfl, rfl, trivial⟩ [10, 7, 9, 8, 6, 0, 1, 2] rfl rfl
          · refine JO_st rfl (wants_none rfl) rfl (st_alloc zi_39 rfl) (fun _ hk => nomatch hk) (fun b26 => ?_)
            refine JD_one (i := 3) (by kernel_rfl) ?_
            refine JO_call rfl (wants_none rfl) rfl Try.call19 rfl (Ca_self (fun _ => rfl) fun w hh => c_laws_toConfig _ w (fun _ hk => hk.elim) _ _ (GConfig.rdmk (Rd.mk_int _ _ _) (hh.rd0 5 rfl) (hh.rd0 4 rfl)) _ hr18) (fun x27 => ?_)
            obtain ⟨x27_0, x27_1⟩ := x27
            refine JD_bnd fun r28 hr29 => ?_
            refine JD_one (i := 4) (by kernel_rfl) ?_
            refine JO_call rfl (wants_none rfl) rfl Try.call26 rfl (Ca_self (fun _ => rfl) fun w hh => c_spec_DecodeBinary _ w (fun _ hk => hk.elim) _ _ (GMachine.rdmk (Rd.mk_int _ _ _) (Rd.mk_int _ _ _) (hh.ow0 3 rfl)) _ _ (GConfig.rdmk (Rd.mk_int _ _ _) (hh.ow0 0 rfl) (hh.ow0 1 rfl)) _ hr29) (fun x30 => ?_)
            obtain ⟨x30_0, x30_1⟩ := x30
            refine JD_take (i := 5) hp11 rfl (by kernel_rfl) (by kernel_rfl) (by kernel_rfl) (wants_none rfl) rfl (ex_move rfl) ?_
            refine JD_take (i := 6) hp11 rfl (by kernel_rfl) (by kernel_rfl) (by kernel_rfl) (wants_none rfl) rfl (ex_extract rfl rfl) ?_
            refine JD_take (i := 7) hp11 rfl (by kernel_rfl) (by kernel_rfl) (by kernel_rfl) (wants_none rfl) rfl (ex_extract rfl rfl) ?_
            refine JD_one (i := 9) (by kernel_rfl) ?_
            refine JO_sk2 4 [] [0, 1, 2, 3, 4] [6, 7, 8, 9, 10] rfl rfl rfl rfl rfl rfl (wants_none rfl) (sk_store_bx' 4 ti_39 rfl rfl (fun w hh => (cv_aggs ⟨cv_int, (hh.cv_ow 0 rfl), (hh.cv_ow 1 rfl), trivial⟩)) rfl rfl rfl rfl) (fun _ hk => hk) ?_
            refine JD_take (i := 10) hp11 rfl (by kernel_rfl) (by kernel_rfl) (by kernel_rfl) (wants_none rfl) rfl (ex_assign rfl) ?_
            refine JD_done (by kernel_rfl) ?_
            exact N_meet' (x30_0, x30_1, b26) ⟨rfl, rfl, rfl, rfl, trivial⟩ [10, 7, 9, 8, 6, 0, 1, 4] rfl rfl
        · refine JO_st rfl (wants_none rfl) rfl (st_alloc zi_39 rfl) (fun _ hk => nomatch hk) (fun b31 => ?_)
          refine JD_one (i := 1) (by kernel_rfl) ?_
          refine JO_call rfl (wants_none rfl) rfl Try.call10 rfl (Ca_self (fun _ => rfl) fun w hh => c_laws_toMachine _ w (fun _ hk => hk.elim) _ _ (GMachine.rdmk (Rd.mk_int _ _ _) (Rd.mk_int _ _ _) (hh.rd0 5 rfl)) _ hr15) (fun x32 => ?_)
          refine JD_bnd fun r33 hr34 => ?_
          refine JD_one (i := 3) (by kernel_rfl) ?_
          refine JO_call rfl (wants_none rfl) rfl Try.call19 rfl (Ca_self (fun _ => rfl) fun w hh => c_laws_toConfig _ w (fun _ hk => hk.elim) _ _ (GConfig.rdmk (Rd.mk_int _ _ _) (hh.rd0 5 rfl) (hh.rd0 4 rfl)) _ hr34) (fun x35 => ?_)
          obtain ⟨x35_0, x35_1⟩ := x35
          refine JD_bnd fun r36 hr37 => ?_
          refine JD_one (i := 4) (by kernel_rfl) ?_
          refine JO_call rfl (wants_none rfl) rfl Try.call26 rfl (Ca_self (fun _ => rfl) fun w hh => c_spec_DecodeBinary _ w (fun _ hk => hk.elim) _ _ (GMachine.rdmk (Rd.mk_int _ _ _) (Rd.mk_int _ _ _) (hh.ow0 2 rfl)) _ _ (GConfig.rdmk (Rd.mk_int _ _ _) (hh.ow0 0 rfl) (hh.ow0 1 rfl)) _ hr37) (fun x38 => ?_)
          obtain ⟨x38_0, x38_1⟩ := x38
          refine JD_take (i := 5) hp11 rfl (by kernel_rfl) (by kernel_rfl) (by kernel_rfl) (wants_none rfl) rfl (ex_move rfl) ?_
          refine JD_take (i := 6) hp11 rfl (by kernel_rfl) (by kernel_rfl) (by kernel_rfl) (wants_none rfl) rfl (ex_extract rfl rfl) ?_
          refine JD_take (i := 7) hp11 rfl (by kernel_rfl) (by kernel_rfl) (by kernel_rfl) (wants_none rfl) rfl (ex_extract rfl rfl) ?_
          refine JD_one (i := 9) (by kernel_rfl) ?_
          refine JO_sk2 5 [] [0, 1, 2, 3, 4] [6, 7, 8, 9, 10] rfl rfl rfl rfl rfl rfl (wants_none rfl) (sk_store_bx' 5 ti_39 rfl rfl (fun w hh => (cv_aggs ⟨cv_int, (hh.cv_ow 0 rfl), (hh.cv_ow 1 rfl), trivial⟩)) rfl rfl rfl rfl) (fun _ hk => hk) ?_
          refine JD_take (i := 10) hp11 rfl (by kernel_rfl) (by kernel_rfl) (by kernel_rfl) (wants_none rfl) rfl (ex_assign rfl) ?_
          refine JD_done (by kernel_rfl) ?_
          exact N_meet' (x38_0, x38_1, b31) ⟨rfl, rfl, rfl, rfl, trivial⟩ [10, 7, 9, 8, 6, 0, 1, 5] rfl rfl
      · obtain ⟨g10_0, g10_1, g10_2⟩ := g10
        refine N_then ?_
        refine J_seq ?_
        refine J_region ?_
        refine JL_q (wants_none rfl) rfl (ex_load_bx_agg 1 ti_24 rfl rfl rfl rfl) ?_
        refine JL_bnd fun r39 hr40 => ?_
        refine JL_call (wants_none rfl) rfl Try.call10 rfl (Ca_self (fun _ => rfl) fun w hh => c_laws_toMachine _ w (fun _ hk => hk.elim) _ _ (GMachine.rdmk (Rd.mk_int _ _ _) (Rd.mk_int _ _ _) (hh.rd0 0 rfl)) _ hr40) (fun x41 => ?_)
        refine JL_st (wants_none rfl) rfl (st_alloc zi_28 rfl) (fun b42 => ?_)
        refine JL_sk (wants_none rfl) (sk_store_bx' 0 ti_28 rfl rfl (fun w hh => (cv_aggs ⟨cv_int, cv_int, (hh.cv_ow 1 rfl), trivial⟩)) rfl rfl rfl rfl) ?_
        refine JL_nil ?_
        refine N_then ?_
        refine J_seq ?_
        refine J_region ?_
        refine JL_q (wants_none rfl) rfl (ex_load_bx_agg 6 ti_37 rfl rfl rfl rfl) ?_
        refine JL_bnd fun r43 hr44 => ?_
        refine JL_call (wants_none rfl) rfl Try.call19 rfl (Ca_self (fun _ => rfl) fun w hh => c_laws_toConfig _ w (fun _ hk => hk.elim) _ _ (GConfig.rdmk (Rd.mk_int _ _ _) (hh.rd0 4 rfl) (hh.rd0 5 rfl)) _ hr44) (fun x45 => ?_)
        obtain ⟨x45_0, x45_1⟩ := x45
        refine JL_st (wants_none rfl) rfl (st_alloc zi_39 rfl) (fun b46 => ?_)
        refine JL_sk (wants_none rfl) (sk_store_bx' 0 ti_39 rfl rfl (fun w hh => (cv_aggs ⟨cv_int, (hh.cv_ow 1 rfl), (hh.cv_ow 2 rfl), trivial⟩)) rfl rfl rfl rfl) ?_
        refine JL_nil ?_
        refine N_then ?_
        refine J_seq ?_
        refine J_region ?_
        refine JL_q (wants_none rfl) rfl (ex_load_bx_agg 3 ti_28 rfl rfl rfl rfl) ?_
        refine JL_q (wants_none rfl) rfl (ex_load_bx_agg 0 ti_39 rfl rfl rfl rfl) ?_
        refine JL_bnd fun r47 hr48 => ?_
        refine JL_call (wants_none rfl) rfl Try.call27 rfl (Ca_self (fun _ => rfl) fun w hh => c_impl_DecodeBinary _ w (fun _ hk => hk.elim) _ _ (GMachine.rdmk (Rd.mk_int _ _ _) (Rd.mk_int _ _ _) (hh.ow0 4 rfl)) _ _ (GConfig.rdmk (Rd.mk_int _ _ _) (hh.ow0 1 rfl) (hh.ow0 2 rfl)) _ hr48) (fun x49 => ?_)
        obtain ⟨x49_0, x49_1, x49_2⟩ := x49
        refine JL_ctx (fun w hh => hh.tkn_rd 0 rfl) ?_
        refine JL_q (wants_none rfl) rfl (ex_move rfl) ?_
        refine JL_q (wants_none rfl) rfl (ex_extract rfl rfl) ?_
        refine JL_q (wants_none rfl) rfl (ex_extract rfl rfl) ?_
        refine JL_st (wants_none rfl) rfl (st_alloc zi_39 rfl) (fun b50 => ?_)
        refine JL_sk (wants_none rfl) (sk_store_bx' 0 ti_39 rfl rfl (fun w hh => (cv_aggs ⟨cv_int, (hh.cv 1 rfl), (hh.cv_ow 3 rfl), trivial⟩)) rfl rfl rfl rfl) ?_
        refine JL_q (wants_none rfl) rfl (ex_assign rfl) ?_
        refine JL_nil ?_
        refine N_then ?_
        refine J_seq ?_
        refine J_cut' (S' := Unit) (G' := Unit) (fun _ _ => [(2, .pointer (some ⟨b1, 0, none⟩)), (3, .pointer (some ⟨b2, 0, none⟩)), (6, .pointer (some ⟨g10_2, 0, none⟩)), (7, .int .i64 s9.2.2.2), (8, .pointer (some ⟨b42, 0, none⟩)), (9, .pointer (some ⟨b46, 0, none⟩)), (10, .pointer (some ⟨b50, 0, none⟩)), (11, .int .i64 r47.2)]) (fun _ _ => [.rd v0_0 p0.Rules, .bx b1 24 [.int .i64 p0.Symbols, .int .i64 p0.States, v0_0], .rd v1_0 p1.Left, .rd v1_1 p1.Right, .bx b2 37 [.int .i64 p1.State, v1_0, v1_1], .ow 2 g10_0 s9.2.1, .ow 2 g10_1 s9.2.2.1, .bx g10_2 39 [.int .i64 s9.1, g10_0, g10_1], .ow 97 x41 r39.Rules, .bx b42 28 [.int .i64 r39.Symbols, .int .i64 r39.States, x41], .ow 2 x45_0 r43.Left, .ow 2 x45_1 r43.Right, .bx b46 39 [.int .i64 r43.State, x45_0, x45_1], .rd x49_0 r47.1.Left, .tkn x49_0 r47.1.Left x49_1, .ow 2 x49_2 r47.1.Right, .bx b50 39 [.int .i64 r47.1.State, x49_0, x49_2]]) ?_ (fun s51 g52 => ?_)
        · refine J_seq ?_
          refine J_region ?_
          refine JL_q (wants_none rfl) rfl (ex_load_bx_agg 0 ti_39 rfl rfl rfl rfl) ?_
          refine JL_q (wants_none rfl) rfl (ex_load_bx_agg 16 ti_39 rfl rfl rfl rfl) ?_
          refine JL_bnd fun r53 hr54 => ?_
          refine JL_call (wants_none rfl) rfl Try.call21 rfl (Ca_of0 fun w hh => c_laws_eqConfig _ w (fun _ hk => hk.elim) _ _ (GConfig.rdmk (Rd.mk_int _ _ _) (hh.rd0 1 rfl) (hh.ow0 3 rfl)) _ _ (GConfig.rdmk (Rd.mk_int _ _ _) (hh.ow0 14 rfl) (hh.ow0 15 rfl)) _ hr54) (fun _ => ?_)
          refine JL_q (wants_none rfl) rfl (ex_not rfl) ?_
          refine JL_q (wants_none rfl) rfl (ex_move rfl) ?_
          refine JL_cond (fun h55 => ?_) (fun h55 => ?_)
          · refine JL_passed rfl rfl rfl h55 ?_
            refine JL_passed rfl rfl rfl h55 ?_
            refine JL_passed rfl rfl rfl h55 ?_
            refine JL_q (wants_none rfl) rfl (ex_pick_true rfl h55 rfl) ?_
            refine JL_nil ?_
            refine N_then ?_
            refine J_if_true rfl rfl ?_
            refine J_seq ?_
            refine J_region ?_
            refine JL_q (wants_none rfl) rfl (ex_assign rfl) ?_
            refine JL_nil ?_
            refine N_then ?_
            refine J_ret ?_
            refine N_mid_ret ?_
            refine N_then_ret ?_
            exact N_ret1 rfl (rv_tmp rfl) (fun w hh => ⟨(), rfl, hh.sel [] rfl⟩)
          · refine JL_q (wants_some rfl rfl rfl h55) rfl (ex_move rfl) ?_
            refine JL_q (wants_some rfl rfl rfl h55) rfl (ex_move rfl) ?_
            refine JL_q (wants_some rfl rfl rfl h55) rfl (ex_neq rfl rfl) ?_
            refine JL_q (wants_none rfl) rfl (ex_pick_false rfl h55 rfl) ?_
            refine JL_nil ?_
            refine N_then ?_
            refine J_if rfl (fun h56 => ?_) (fun h56 => ?_)
            · refine J_seq ?_
              refine J_region ?_
              refine JL_q (wants_none rfl) rfl (ex_assign rfl) ?_
              refine JL_nil ?_
              refine N_then ?_
              refine J_ret ?_
              refine N_mid_ret ?_
              refine N_then_ret ?_
              exact N_ret1 rfl (rv_tmp rfl) (fun w hh => ⟨(), rfl, hh.sel [] rfl⟩)
            · refine J_skip ?_
              exact N_meet' () ⟨rfl, rfl, rfl, rfl, rfl, rfl, rfl, rfl, trivial⟩ [9, 10, 11, 12, 13, 14, 15, 16, 8, 7, 5, 6, 4, 1, 2, 3, 0] rfl rfl
        · refine N_then ?_
          refine J_seq ?_
          refine J_seq ?_
          refine J_draw [] (by kernel_rfl) ?_
          refine JP_take (i := 0) [0, 1, 2, 3, 4, 5, 6, 7, 8, 9, 10, 11, 12, 13, 14, 15, 16] [] rfl (by kernel_rfl) (by kernel_rfl) (by kernel_rfl) rfl rfl (wants_none rfl) rfl (ex_load_bx_agg 9 ti_28 rfl rfl rfl rfl) ?_
          refine JP_take (i := 1) [0, 1, 2, 3, 4, 5, 6, 7, 8, 9, 10, 11, 12, 13, 14, 15, 16] [] rfl (by kernel_rfl) (by kernel_rfl) (by kernel_rfl) rfl rfl (wants_none rfl) rfl (ex_load_bx_agg 1 ti_24 rfl rfl rfl rfl) ?_
          refine JP_go [0, 1, 2, 3, 4, 5, 6, 7, 8, 9, 10, 11, 12, 13, 14, 15, 16] [] rfl rfl rfl (fun w58 h1_59 hp57 => ?_)
          refine JD_bnd fun r60 hr61 => ?_
          refine JD_one (i := 2) (by kernel_rfl) ?_
          refine JO_call rfl (wants_none rfl) rfl Try.call10 rfl (Ca_self (fun _ => rfl) fun w hh => c_laws_toMachine _ w (fun _ hk => hk.elim) _ _ (GMachine.rdmk (Rd.mk_int _ _ _) (Rd.mk_int _ _ _) (hh.rd0 0 rfl)) _ hr61) (fun x62 => ?_)
          refine JD_bnd fun r63 hr64 => ?_
          refine JD_one (i := 3) (by kernel_rfl) ?_
          refine JO_call rfl (wants_none rfl) rfl Try.call12 rfl (Ca_of0 fun w hh => c_laws_eqMachine _ w (fun _ hk => hk.elim) _ _ (GMachine.rdmk (Rd.mk_int _ _ _) (Rd.mk_int _ _ _) (hh.ow0 9 rfl)) _ _ (GMachine.rdmk (Rd.mk_int _ _ _) (Rd.mk_int _ _ _) (hh.ow0 0 rfl)) _ hr64) (fun _ => ?_)
          refine JD_take (i := 4) hp57 rfl (by kernel_rfl) (by kernel_rfl) (by kernel_rfl) (wants_none rfl) rfl (ex_not rfl) ?_
          refine JD_done (by kernel_rfl) ?_
          refine N_then ?_
          refine J_if rfl (fun h65 => ?_) (fun h65 => ?_)
          · refine J_seq ?_
            refine J_region ?_
            refine JL_q (wants_none rfl) rfl (ex_assign rfl) ?_
            refine JL_nil ?_
            refine N_then ?_
            refine J_ret ?_
            refine N_then_ret ?_
            exact N_ret1 rfl (rv_tmp rfl) (fun w hh => ⟨(), rfl, hh.sel [] rfl⟩)
          · refine J_skip ?_
            refine N_then ?_
            refine J_seq ?_
            refine J_seq ?_
            refine J_draw [] (by kernel_rfl) ?_
            refine JP_take (i := 0) [0, 1, 2, 3, 4, 5, 6, 7, 8, 9, 10, 11, 12, 13, 14, 15, 16, 17] [] rfl (by kernel_rfl) (by kernel_rfl) (by kernel_rfl) rfl rfl (wants_none rfl) rfl (ex_load_bx_agg 13 ti_39 rfl rfl rfl rfl) ?_
            refine JP_take (i := 1) [0, 1, 2, 3, 4, 5, 6, 7, 8, 9, 10, 11, 12, 13, 14, 15, 16, 17] [] rfl (by kernel_rfl) (by kernel_rfl) (by kernel_rfl) rfl rfl (wants_none rfl) rfl (ex_load_bx_agg 5 ti_37 rfl rfl rfl rfl) ?_
            refine JP_go [0, 1, 2, 3, 4, 5, 6, 7, 8, 9, 10, 11, 12, 13, 14, 15, 16, 17] [] rfl rfl rfl (fun w67 h1_68 hp66 => ?_)
            refine JD_bnd fun r69 hr70 => ?_
            refine JD_one (i := 2) (by kernel_rfl) ?_
            refine JO_call rfl (wants_none rfl) rfl Try.call19 rfl (Ca_self (fun _ => rfl) fun w hh => c_laws_toConfig _ w (fun _ hk => hk.elim) _ _ (GConfig.rdmk (Rd.mk_int _ _ _) (hh.rd0 3 rfl) (hh.rd0 4 rfl)) _ hr70) (fun x71 => ?_)
            obtain ⟨x71_0, x71_1⟩ := x71
            refine JD_bnd fun r72 hr73 => ?_
            refine JD_one (i := 3) (by kernel_rfl) ?_
            refine JO_call rfl (wants_none rfl) rfl Try.call21 rfl (Ca_of0 fun w hh => c_laws_eqConfig _ w (fun _ hk => hk.elim) _ _ (GConfig.rdmk (Rd.mk_int _ _ _) (hh.ow0 13 rfl) (hh.ow0 14 rfl)) _ _ (GConfig.rdmk (Rd.mk_int _ _ _) (hh.ow0 0 rfl) (hh.ow0 1 rfl)) _ hr73) (fun _ => ?_)
            refine JD_take (i := 4) hp66 rfl (by kernel_rfl) (by kernel_rfl) (by kernel_rfl) (wants_none rfl) rfl (ex_not rfl) ?_
            refine JD_done (by kernel_rfl) ?_
            refine N_then ?_
            refine J_if rfl (fun h74 => ?_) (fun h74 => ?_)
            · refine J_seq ?_
              refine J_region ?_
              refine JL_q (wants_none rfl) rfl (ex_assign rfl) ?_
              refine JL_nil ?_
              refine N_then ?_
              refine J_ret ?_
              refine N_then_ret ?_
              exact N_ret1 rfl (rv_tmp rfl) (fun w hh => ⟨(), rfl, hh.sel [] rfl⟩)
            · refine J_skip ?_
              refine N_then ?_
              refine J_seq ?_
              refine J_region ?_
              refine JL_q (wants_none rfl) rfl (ex_assign rfl) ?_
              refine JL_nil ?_
              refine N_then ?_
              refine J_seq ?_
              refine J_region ?_
              refine JL_q (wants_none rfl) rfl (ex_load_bx_agg 12 ti_28 rfl rfl rfl rfl) ?_
              refine JL_q (wants_none rfl) rfl (ex_move rfl) ?_
              refine JL_inline (wants_none rfl) rfl Try.call13 rfl Try.func13 rfl Try.ntmps13 rfl rfl (fun K_ hK75 => ?_)
              refine J_seq ?_
              refine J_region ?_
              refine JL_st (wants_none rfl) rfl (st_box' rfl (fun w hh => (cv_aggs ⟨cv_int, cv_int, (hh.cv_ow 11 rfl), trivial⟩))) (fun b76 => ?_)
              refine JL_q (wants_none rfl) rfl (ex_assign rfl) ?_
              refine JL_nil ?_
              refine N_then ?_
              refine J_seq ?_
              refine J_region ?_
              refine JL_q (wants_none rfl) rfl (ex_fieldAddr fi_28_2 rfl rfl) ?_
              refine JL_q (wants_none rfl) rfl (ex_load_bx 0 ti_26 rfl rfl rfl) ?_
              refine JL_q (wants_none rfl) rfl (ex_move rfl) ?_
              refine JL_bnd fun r77 hr78 => ?_
              refine JL_ctx (fun w hh => hh.tokf 12 rfl rfl) ?_
              refine JL_mark 0 [1, 2, 3, 4, 6, 9, 10, 11, 12, 14, 15, 16, 17, 19, 20, 21] mk_laws_markRuleS (wants_none rfl) rfl Try.call36 rfl rfl rfl rfl ((((SH.start hA).start_rd rfl hp0_0).start_rd rfl hp1_0).start_rd rfl hp1_1) rfl hr78 ?_
              refine JL_ctx (fun w hh => hh.tkn_rd 18 rfl) ?_
              refine JL_q (wants_none rfl) rfl (ex_assign rfl) ?_
              refine JL_nil ?_
              refine N_then ?_
              refine J_seq ?_
              refine J_region ?_
              refine JL_q (wants_none rfl) rfl (ex_move rfl) ?_
              refine JL_q (wants_none rfl) rfl (ex_assign rfl) ?_
              refine JL_nil ?_
              refine N_then ?_
              refine J_ret ?_
              refine N_inl1 hK75 rfl (rv_tmp rfl) ?_
              refine JL_q (wants_none rfl) rfl (ex_assign rfl) ?_
              refine JL_nil ?_
              refine N_then ?_
              refine J_seq ?_
              refine J_region ?_
              refine JL_q (wants_none rfl) rfl (ex_load_bx_agg 18 ti_39 rfl rfl rfl rfl) ?_
              refine JL_q (wants_none rfl) rfl (ex_move rfl) ?_
              refine JL_inline (wants_none rfl) rfl Try.call22 rfl Try.func22 rfl Try.ntmps22 rfl rfl (fun K_ hK79 => ?_)
              refine J_seq ?_
              refine J_region ?_
              refine JL_st (wants_none rfl) rfl (st_box' rfl (fun w hh => (cv_aggs ⟨cv_int, (hh.cv_ow 16 rfl), (hh.cv_ow 17 rfl), trivial⟩))) (fun b80 => ?_)
              refine JL_q (wants_none rfl) rfl (ex_assign rfl) ?_
              refine JL_nil ?_
              refine N_then ?_
              refine J_seq ?_
              refine J_region ?_
              refine JL_q (wants_none rfl) rfl (ex_fieldAddr fi_39_1 rfl rfl) ?_
              refine JL_q (wants_none rfl) rfl (ex_load_bx 0 ti_35 rfl rfl rfl) ?_
              refine JL_q (wants_none rfl) rfl (ex_move rfl) ?_
              refine JL_bnd fun r81 hr82 => ?_
              refine JL_ctx (fun w hh => hh.tokf 17 rfl rfl) ?_
              refine JL_mark 0 [1, 4, 8, 9, 10, 11, 12, 13, 14, 15, 16, 17, 19, 20, 21, 22, 23] mk_laws_markInt64S (wants_none rfl) rfl Try.call51 rfl rfl rfl rfl ((((SH.start hA).start_rd rfl hp0_0).start_rd rfl hp1_0).start_rd rfl hp1_1) rfl hr82 ?_
              refine JL_ctx (fun w hh => hh.tkn_rd 19 rfl) ?_
              refine JL_ctx (fun w hh => hh.tkn_rd 7 rfl) ?_
              refine JL_q (wants_none rfl) rfl (ex_assign rfl) ?_
              refine JL_nil ?_
              refine N_then ?_
              refine J_seq ?_
              refine J_region ?_
              refine JL_q (wants_none rfl) rfl (ex_fieldAddr fi_39_2 rfl rfl) ?_
              refine JL_q (wants_none rfl) rfl (ex_load_bx 7 ti_35 rfl rfl rfl) ?_
              refine JL_q (wants_none rfl) rfl (ex_move rfl) ?_
              refine JL_bnd fun r83 hr84 => ?_
              refine JL_ctx (fun w hh => hh.tokf 19 rfl rfl) ?_
              refine JL_mark 0 [4, 8, 9, 10, 11, 12, 13, 14, 15, 16, 17, 18, 19, 21, 22, 23, 24] mk_laws_markInt64S (wants_none rfl) rfl Try.call51 rfl rfl rfl rfl ((((SH.start hA).start_rd rfl hp0_0).start_rd rfl hp1_0).start_rd rfl hp1_1) rfl hr84 ?_
              refine JL_ctx (fun w hh => hh.tkn_rd 7 rfl) ?_
              refine JL_ctx (fun w hh => hh.tkn_rd 20 rfl) ?_
              refine JL_ctx (fun w hh => hh.tkn_rd 7 rfl) ?_
              refine JL_q (wants_none rfl) rfl (ex_assign rfl) ?_
              refine JL_nil ?_
              refine N_then ?_
              refine J_seq ?_
              refine J_region ?_
              refine JL_q (wants_none rfl) rfl (ex_move rfl) ?_
              refine JL_q (wants_none rfl) rfl (ex_assign rfl) ?_
              refine JL_nil ?_
              refine N_then ?_
              refine J_ret ?_
              refine N_inl1 hK79 rfl (rv_tmp rfl) ?_
              refine JL_q (wants_none rfl) rfl (ex_assign rfl) ?_
              refine JL_nil ?_
              refine N_then ?_
              refine J_seq ?_
              refine J_cut' (S' := Unit) (G' := Unit) (fun _ _ => [(2, .pointer (some ⟨b1, 0, none⟩)), (3, .pointer (some ⟨b2, 0, none⟩)), (6, .pointer (some ⟨g10_2, 0, none⟩)), (7, .int .i64 s9.2.2.2), (10, .pointer (some ⟨b50, 0, none⟩))]) (fun _ _ => [.rd v0_0 p0.Rules, .bx b1 24 [.int .i64 p0.Symbols, .int .i64 p0.States, v0_0], .rd v1_0 p1.Left, .rd v1_1 p1.Right, .bx b2 37 [.int .i64 p1.State, v1_0, v1_1], .ow 2 g10_0 s9.2.1, .ow 2 g10_1 s9.2.2.1, .bx g10_2 39 [.int .i64 s9.1, g10_0, g10_1], .rd x49_0 r47.1.Left, .tkn x49_0 r47.1.Left x49_1, .ow 2 x49_2 r47.1.Right, .bx b50 39 [.int .i64 r47.1.State, x49_0, x49_2]]) ?_ (fun s85 g86 => ?_)
              · refine J_seq ?_
                refine J_region ?_
                refine JL_q (wants_none rfl) rfl (ex_move rfl) ?_
                refine JL_q (wants_none rfl) rfl (ex_lss rfl rfl) ?_
                refine JL_q (wants_none rfl) rfl (ex_move rfl) ?_
                refine JL_cond (fun h87 => ?_) (fun h87 => ?_)
                · refine JL_passed rfl rfl rfl h87 ?_
                  refine JL_passed rfl rfl rfl h87 ?_
                  refine JL_passed rfl rfl rfl h87 ?_
                  refine JL_passed rfl rfl rfl h87 ?_
                  refine JL_q (wants_none rfl) rfl (ex_pick_true rfl h87 rfl) ?_
                  refine JL_q (wants_none rfl) rfl (ex_move rfl) ?_
                  refine JL_passed rfl rfl rfl rfl ?_
                  refine JL_passed rfl rfl rfl rfl ?_
                  refine JL_passed rfl rfl rfl rfl ?_
                  refine JL_q (wants_none rfl) rfl (ex_pick_true rfl rfl rfl) ?_
                  refine JL_nil ?_
                  refine N_then ?_
                  refine J_if_true rfl rfl ?_
                  refine J_seq ?_
                  refine J_region ?_
                  refine JL_q (wants_none rfl) rfl (ex_assign rfl) ?_
                  refine JL_nil ?_
                  refine N_then ?_
                  refine J_ret ?_
                  refine N_mid_ret ?_
                  refine N_then_ret ?_
                  exact N_ret1 rfl (rv_tmp rfl) (fun w hh => ⟨(), rfl, hh.sel [] rfl⟩)
                · refine JL_q (wants_some rfl rfl rfl h87) rfl (ex_load_bx_agg 24 ti_39 rfl rfl rfl rfl) ?_
                  refine JL_q (wants_some rfl rfl rfl h87) rfl (ex_load_bx_agg 19 ti_39 rfl rfl rfl rfl) ?_
                  refine JL_bnd fun r88 hr89 => ?_
                  refine JL_call (wants_some rfl rfl rfl h87) rfl Try.call21 rfl (Ca_of0 fun w hh => c_laws_eqConfig _ w (fun _ hk => hk.elim) _ _ (GConfig.rdmk (Rd.mk_int _ _ _) (hh.rd0 1 rfl) (hh.ow0 23 rfl)) _ _ (GConfig.rdmk (Rd.mk_int _ _ _) (hh.ow0 17 rfl) (hh.ow0 18 rfl)) _ hr89) (fun _ => ?_)
                  refine JL_q (wants_some rfl rfl rfl h87) rfl (ex_not rfl) ?_
                  refine JL_q (wants_none rfl) rfl (ex_pick_false rfl h87 rfl) ?_
                  refine JL_q (wants_none rfl) rfl (ex_move rfl) ?_
                  refine JL_cond (fun h90 => ?_) (fun h90 => ?_)
                  · refine JL_passed rfl rfl rfl h90 ?_
                    refine JL_passed rfl rfl rfl h90 ?_
                    refine JL_passed rfl rfl rfl h90 ?_
                    refine JL_q (wants_none rfl) rfl (ex_pick_true rfl h90 rfl) ?_
                    refine JL_nil ?_
                    refine N_then ?_
                    refine J_if_true rfl rfl ?_
                    refine J_seq ?_
                    refine J_region ?_
                    refine JL_q (wants_none rfl) rfl (ex_assign rfl) ?_
                    refine JL_nil ?_
                    refine N_then ?_
                    refine J_ret ?_
                    refine N_mid_ret ?_
                    refine N_then_ret ?_
                    exact N_ret1 rfl (rv_tmp rfl) (fun w hh => ⟨(), rfl, hh.sel [] rfl⟩)
                  · refine JL_q (wants_some rfl rfl rfl h90) rfl (ex_move rfl) ?_
                    refine JL_q (wants_some rfl rfl rfl h90) rfl (ex_move rfl) ?_
                    refine JL_q (wants_some rfl rfl rfl h90) rfl (ex_neq rfl rfl) ?_
                    refine JL_q (wants_none rfl) rfl (ex_pick_false rfl h90 rfl) ?_
                    refine JL_nil ?_
                    refine N_then ?_
                    refine J_if rfl (fun h91 => ?_) (fun h91 => ?_)
                    · refine J_seq ?_
                      refine J_region ?_
                      refine JL_q (wants_none rfl) rfl (ex_assign rfl) ?_
                      refine JL_nil ?_
                      refine N_then ?_
                      refine J_ret ?_
                      refine N_mid_ret ?_
                      refine N_then_ret ?_
                      exact N_ret1 rfl (rv_tmp rfl) (fun w hh => ⟨(), rfl, hh.sel [] rfl⟩)
                    · refine J_skip ?_
                      exact N_meet' () ⟨rfl, rfl, rfl, rfl, rfl, trivial⟩ [7, 15, 6, 5, 16, 17, 18, 19, 1, 22, 23, 24] rfl rfl
              · refine N_then ?_
                refine J_seq ?_
                refine J_region ?_
                refine JL_q (wants_none rfl) rfl (ex_assign rfl) ?_
                refine JL_nil ?_
                refine N_then ?_
                refine J_seq ?_
                refine J_region ?_
                refine JL_q (wants_none rfl) rfl (ex_load_bx_agg 11 ti_39 rfl rfl rfl rfl) ?_
                refine JL_q (wants_none rfl) rfl (ex_move rfl) ?_
                refine JL_inline (wants_none rfl) rfl Try.call22 rfl Try.func22 rfl Try.ntmps22 rfl rfl (fun K_ hK92 => ?_)
                refine J_seq ?_
                refine J_region ?_
                refine JL_st (wants_none rfl) rfl (st_box' rfl (fun w hh => (cv_aggs ⟨cv_int, (hh.cv 8 rfl), (hh.cv_ow 10 rfl), trivial⟩))) (fun b93 => ?_)
                refine JL_q (wants_none rfl) rfl (ex_assign rfl) ?_
                refine JL_nil ?_
                refine N_then ?_
                refine J_seq ?_
                refine J_region ?_
                refine JL_q (wants_none rfl) rfl (ex_fieldAddr fi_39_1 rfl rfl) ?_
                refine JL_q (wants_none rfl) rfl (ex_load_bx 0 ti_35 rfl rfl rfl) ?_
                refine JL_q (wants_none rfl) rfl (ex_move rfl) ?_
                refine JL_bnd fun r94 hr95 => ?_
                refine JL_mark 10 [0, 2, 5, 6, 7, 8, 11, 12] mk_laws_markInt64S (wants_none rfl) rfl Try.call51 rfl rfl rfl rfl ((((SH.start hA).start_rd rfl hp0_0).start_rd rfl hp1_0).start_rd rfl hp1_1) rfl hr95 ?_
                refine JL_q (wants_none rfl) rfl (ex_assign rfl) ?_
                refine JL_nil ?_
                refine N_then ?_
                refine J_seq ?_
                refine J_region ?_
                refine JL_q (wants_none rfl) rfl (ex_fieldAddr fi_39_2 rfl rfl) ?_
                refine JL_q (wants_none rfl) rfl (ex_load_bx 5 ti_35 rfl rfl rfl) ?_
                refine JL_q (wants_none rfl) rfl (ex_move rfl) ?_
                refine JL_bnd fun r96 hr97 => ?_
                refine JL_ctx (fun w hh => hh.tokf 11 rfl rfl) ?_
                refine JL_mark 0 [2, 6, 7, 8, 9, 10, 11, 13] mk_laws_markInt64S (wants_none rfl) rfl Try.call51 rfl rfl rfl rfl ((((SH.start hA).start_rd rfl hp0_0).start_rd rfl hp1_0).start_rd rfl hp1_1) rfl hr97 ?_
                refine JL_ctx (fun w hh => hh.tkn_rd 5 rfl) ?_
                refine JL_q (wants_none rfl) rfl (ex_assign rfl) ?_
                refine JL_nil ?_
                refine N_then ?_
                refine J_seq ?_
                refine J_region ?_
                refine JL_q (wants_none rfl) rfl (ex_move rfl) ?_
                refine JL_q (wants_none rfl) rfl (ex_assign rfl) ?_
                refine JL_nil ?_
                refine N_then ?_
                refine J_ret ?_
                refine N_inl1 hK92 rfl (rv_tmp rfl) ?_
                refine JL_q (wants_none rfl) rfl (ex_assign rfl) ?_
                refine JL_nil ?_
                refine N_then ?_
                refine J_seq ?_
                refine J_region ?_
                refine JL_q (wants_none rfl) rfl (ex_assign rfl) ?_
                refine JL_nil ?_
                refine N_then ?_
                refine J_seq ?_
                refine J_region ?_
                refine JL_q (wants_none rfl) rfl (ex_load_bx_agg 13 ti_39 rfl rfl rfl rfl) ?_
                refine JL_q (wants_none rfl) rfl (ex_move rfl) ?_
                refine JL_bnd fun r98 hr99 => ?_
                refine JL_call (wants_none rfl) rfl Try.call23 rfl (Ca_of0 fun w hh => c_laws_heldConfig _ w (fun _ hk => hk.elim) _ _ (GConfig.rdmk (Rd.mk_int _ _ _) (hh.rd0 0 rfl) (hh.rd0 1 rfl)) _ _ hr99) (fun _ => ?_)
                refine JL_q (wants_none rfl) rfl (ex_assign rfl) ?_
                refine JL_nil ?_
                refine N_then ?_
                refine J_seq ?_
                refine J_seq ?_
                refine J_region ?_
                refine JL_q (wants_none rfl) rfl (ex_move rfl) ?_
                refine JL_q (wants_none rfl) rfl (ex_lss rfl rfl) ?_
                refine JL_nil ?_
                refine N_then ?_
                refine J_if rfl (fun h100 => ?_) (fun h100 => ?_)
                · refine J_seq ?_
                  refine J_region ?_
                  refine JL_q (wants_none rfl) rfl (ex_assign rfl) ?_
                  refine JL_nil ?_
                  refine N_then ?_
                  refine J_ret ?_
                  refine N_then_ret ?_
                  exact N_ret1 rfl (rv_tmp rfl) (fun w hh => ⟨(), rfl, hh.sel [] rfl⟩)
                · refine J_skip ?_
                  refine N_then ?_
                  refine J_seq ?_
                  refine J_seq ?_
                  refine J_region ?_
                  refine JL_q (wants_none rfl) rfl (ex_move rfl) ?_
                  refine JL_q (wants_none rfl) rfl (ex_move rfl) ?_
                  refine JL_q (wants_none rfl) rfl (ex_neq rfl rfl) ?_
                  refine JL_nil ?_
                  refine N_then ?_
                  refine J_if rfl (fun h101 => ?_) (fun h101 => ?_)
                  · refine J_seq ?_
                    refine J_region ?_
                    refine JL_q (wants_none rfl) rfl (ex_assign rfl) ?_
                    refine JL_nil ?_
                    refine N_then ?_
                    refine J_ret ?_
                    refine N_then_ret ?_
                    exact N_ret1 rfl (rv_tmp rfl) (fun w hh => ⟨(), rfl, hh.sel [] rfl⟩)
                  · refine J_skip ?_
                    refine N_then ?_
                    refine J_seq ?_
                    refine J_cut' (S' := Int × (List Int) × (List Int) × Int) (G' := Value × List Nat × Value × Nat) (fun s102 g103 => [(6, .pointer (some ⟨g10_2, 0, none⟩)), (7, .int .i64 s9.2.2.2), (10, .pointer (some ⟨b50, 0, none⟩)), (13, .int .i64 r96.1), (15, .pointer (some ⟨g103.2.2.2, 0, none⟩)), (16, .int .i64 s102.2.2.2)]) (fun s102 g103 => [.ow 2 g10_0 s9.2.1, .ow 2 g10_1 s9.2.2.1, .bx g10_2 39 [.int .i64 s9.1, g10_0, g10_1], .rd x49_0 r94.2, .tkn x49_0 r94.2 x49_1, .rd x49_2 r96.2, .tkn x49_2 r96.2 ((x49_2 : Value).ownBlock.toList ++ []), .bx b50 39 [.int .i64 r47.1.State, x49_0, x49_2], .rd g103.1 s102.2.1, .tkn g103.1 s102.2.1 g103.2.1, .ow 2 g103.2.2.1 s102.2.2.1, .bx g103.2.2.2 39 [.int .i64 s102.1, g103.1, g103.2.2.1]]) ?_ (fun s102 g103 => ?_)
                    · refine J_draw [] (by kernel_rfl) ?_
                      refine JP_take (i := 0) [0, 1, 2, 3, 4, 5, 6, 7, 8, 9, 10, 11, 12, 13] [] rfl (by kernel_rfl) (by kernel_rfl) (by kernel_rfl) rfl rfl (wants_none rfl) rfl (ex_load_bx_agg 8 ti_24 rfl rfl rfl rfl) ?_
                      refine JP_take (i := 2) [0, 1, 2, 3, 4, 5, 6, 7, 8, 9, 10, 11, 12, 13] [] rfl (by kernel_rfl) (by kernel_rfl) (by kernel_rfl) rfl rfl (wants_none rfl) rfl (ex_load_bx_agg 9 ti_37 rfl rfl rfl rfl) ?_
                      refine JP_go [0, 1, 2, 3, 4, 5, 6, 7, 8, 9, 10, 11, 12, 13] [] rfl rfl rfl (fun w105 h1_106 hp104 => ?_)
                      refine JD_bnd fun r107 hr108 => ?_
                      refine JD_two (i := 1) (j := 8) (by kernel_rfl) ?_ ?_
                      · refine JO_call rfl (wants_none rfl) rfl Try.call10 rfl (Ca_self (fun _ => rfl) fun w hh => c_laws_toMachine _ w (fun _ hk => hk.elim) _ _ (GMachine.rdmk (Rd.mk_int _ _ _) (Rd.mk_int _ _ _) (hh.rd0 5 rfl)) _ hr108) (fun x109 => ?_)
                        refine JD_bnd fun r110 hr111 => ?_
                        refine JD_two (i := 3) (j := 8) (by kernel_rfl) ?_ ?_
                        · refine JO_call rfl (wants_none rfl) rfl Try.call19 rfl (Ca_self (fun _ => rfl) fun w hh => c_laws_toConfig _ w (fun _ hk => hk.elim) _ _ (GConfig.rdmk (Rd.mk_int _ _ _) (hh.rd0 5 rfl) (hh.rd0 4 rfl)) _ hr111) (fun x112 => ?_)
                          obtain ⟨x112_0, x112_1⟩ := x112
                          refine JD_bnd fun r113 hr114 => ?_
                          refine JD_two (i := 4) (j := 8) (by kernel_rfl) ?_ ?_
                          · refine JO_call rfl (wants_none rfl) rfl Try.call27 rfl (Ca_self (fun _ => rfl) fun w hh => c_impl_DecodeBinary _ w (fun _ hk => hk.elim) _ _ (GMachine.rdmk (Rd.mk_int _ _ _) (Rd.mk_int _ _ _) (hh.ow0 2 rfl)) _ _ (GConfig.rdmk (Rd.mk_int _ _ _) (hh.ow0 0 rfl) (hh.ow0 1 rfl)) _ hr114) (fun x115 => ?_)
                            obtain ⟨x115_0, x115_1, x115_2⟩ := x115
                            refine JD_ctx (fun w hh => hh.tkn_rd 0 rfl) (fun _ hb => hb) ?_
                            refine JD_take (i := 5) hp104 rfl (by kernel_rfl) (by kernel_rfl) (by kernel_rfl) (wants_none rfl) rfl (ex_move rfl) ?_
                            refine JD_take (i := 6) hp104 rfl (by kernel_rfl) (by kernel_rfl) (by kernel_rfl) (wants_none rfl) rfl (ex_extract rfl rfl) ?_
                            refine JD_take (i := 7) hp104 rfl (by kernel_rfl) (by kernel_rfl) (by kernel_rfl) (wants_none rfl) rfl (ex_extract rfl rfl) ?_
                            refine JD_one (i := 8) (by kernel_rfl) ?_
                            refine JO_st rfl (wants_none rfl) rfl (st_alloc zi_39 rfl) (fun _ hk => nomatch hk) (fun b116 => ?_)
                            refine JD_one (i := 9) (by kernel_rfl) ?_
                            refine JO_sk2 0 [] [0, 1, 2, 3, 4, 5, 6, 7, 8, 9, 10, 11, 12, 13] [7, 8, 9, 10, 11, 12, 13, 14, 15, 16, 17, 18, 19, 20] rfl rfl rfl rfl rfl rfl (wants_none rfl) (sk_store_bx' 0 ti_39 rfl rfl (fun w hh => (cv_aggs ⟨cv_int, (hh.cv 1 rfl), (hh.cv_ow 3 rfl), trivial⟩)) rfl rfl rfl rfl) (fun _ hk => hk) ?_
                            refine JD_take (i := 10) hp104 rfl (by kernel_rfl) (by kernel_rfl) (by kernel_rfl) (wants_none rfl) rfl (ex_assign rfl) ?_
                            refine JD_done (by kernel_rfl) ?_
                            exact N_meet' (x115_0, x115_1, x115_2, b116) ⟨rfl, rfl, rfl, rfl, rfl, rfl, trivial⟩ [17, 18, 19, 7, 13, 8, 9, 20, 1, 2, 3, 0] rfl rfl
                          · refine JO_st rfl (wants_none rfl) rfl (st_alloc zi_39 rfl) (fun _ hk => nomatch hk) (fun b117 => ?_)
                            refine JD_one (i := 4) (by kernel_rfl) ?_
                            refine JO_call rfl (wants_none rfl) rfl Try.call27 rfl (Ca_self (fun _ => rfl) fun w hh => c_impl_DecodeBinary _ w (fun _ hk => hk.elim) _ _ (GMachine.rdmk (Rd.mk_int _ _ _) (Rd.mk_int _ _ _) (hh.ow0 3 rfl)) _ _ (GConfig.rdmk (Rd.mk_int _ _ _) (hh.ow0 1 rfl) (hh.ow0 2 rfl)) _ hr114) (fun x118 => ?_)
                            obtain ⟨x118_0, x118_1, x118_2⟩ := x118
                            refine JD_ctx (fun w hh => hh.tkn_rd 0 rfl) (fun _ hb => hb) ?_
                            refine JD_take (i := 5) hp104 rfl (by kernel_rfl) (by kernel_rfl) (by kernel_rfl) (wants_none rfl) rfl (ex_move rfl) ?_
                            refine JD_take (i := 6) hp104 rfl (by kernel_rfl) (by kernel_rfl) (by kernel_rfl) (wants_none rfl) rfl (ex_extract rfl rfl) ?_
                            refine JD_take (i := 7) hp104 rfl (by kernel_rfl) (by kernel_rfl) (by kernel_rfl) (wants_none rfl) rfl (ex_extract rfl rfl) ?_
                            refine JD_one (i := 9) (by kernel_rfl) ?_
                            refine JO_sk2 3 [] [0, 1, 2, 3, 4, 5, 6, 7, 8, 9, 10, 11, 12, 13] [7, 8, 9, 10, 11, 12, 13, 14, 15, 16, 17, 18, 19, 20] rfl rfl rfl rfl rfl rfl (wants_none rfl) (sk_store_bx' 3 ti_39 rfl rfl (fun w hh => (cv_aggs ⟨cv_int, (hh.cv 0 rfl), (hh.cv_ow 2 rfl), trivial⟩)) rfl rfl rfl rfl) (fun _ hk => hk) ?_
                            refine JD_take (i := 10) hp104 rfl (by kernel_rfl) (by kernel_rfl) (by kernel_rfl) (wants_none rfl) rfl (ex_assign rfl) ?_
                            refine JD_done (by kernel_rfl) ?_
                            exact N_meet' (x118_0, x118_1, x118_2, b117) ⟨rfl, rfl, rfl, rfl, rfl, rfl, trivial⟩ [17, 18, 19, 7, 13, 8, 9, 20, 0, 1, 2, 3] rfl rfl
                        · refine JO_st rfl (wants_none rfl) rfl (st_alloc zi_39 rfl) (fun _ hk => nomatch hk) (fun b119 => ?_)
                          refine JD_one (i := 3) (by kernel_rfl) ?_
                          refine JO_call rfl (wants_none rfl) rfl Try.call19 rfl (Ca_self (fun _ => rfl) fun w hh => c_laws_toConfig _ w (fun _ hk => hk.elim) _ _ (GConfig.rdmk (Rd.mk_int _ _ _) (hh.rd0 6 rfl) (hh.rd0 5 rfl)) _ hr111) (fun x120 => ?_)
                          obtain ⟨x120_0, x120_1⟩ := x120
                          refine JD_bnd fun r121 hr122 => ?_
                          refine JD_one (i := 4) (by kernel_rfl) ?_
                          refine JO_call rfl (wants_none rfl) rfl Try.call27 rfl (Ca_self (fun _ => rfl) fun w hh => c_impl_DecodeBinary _ w (fun _ hk => hk.elim) _ _ (GMachine.rdmk (Rd.mk_int _ _ _) (Rd.mk_int _ _ _) (hh.ow0 3 rfl)) _ _ (GConfig.rdmk (Rd.mk_int _ _ _) (hh.ow0 0 rfl) (hh.ow0 1 rfl)) _ hr122) (fun x123 => ?_)
                          obtain ⟨x123_0, x123_1, x123_2⟩ := x123
                          refine JD_ctx (fun w hh => hh.tkn_rd 0 rfl) (fun _ hb => hb) ?_
                          refine JD_take (i := 5) hp104 rfl (by kernel_rfl) (by kernel_rfl) (by kernel_rfl) (wants_none rfl) rfl (ex_move rfl) ?_
                          refine JD_take (i := 6) hp104 rfl (by kernel_rfl) (by kernel_rfl) (by kernel_rfl) (wants_none rfl) rfl (ex_extract rfl rfl) ?_
                          refine JD_take (i := 7) hp104 rfl (by kernel_rfl) (by kernel_rfl) (by kernel_rfl) (wants_none rfl) rfl (ex_extract rfl rfl) ?_
                          refine JD_one (i := 9) (by kernel_rfl) ?_
                          refine JO_sk2 5 [] [0, 1, 2, 3, 4, 5, 6, 7, 8, 9, 10, 11, 12, 13] [7, 8, 9, 10, 11, 12, 13, 14, 15, 16, 17, 18, 19, 20] rfl rfl rfl rfl rfl rfl (wants_none rfl) (sk_store_bx' 5 ti_39 rfl rfl (fun w hh => (cv_aggs ⟨cv_int, (hh.cv 0 rfl), (hh.cv_ow 2 rfl), trivial⟩)) rfl rfl rfl rfl) (fun _ hk => hk) ?_
                          refine JD_take (i := 10) hp104 rfl (by kernel_rfl) (by kernel_rfl) (by kernel_rfl) (wants_none rfl) rfl (ex_assign rfl) ?_
                          refine JD_done (by kernel_rfl) ?_
                          exact N_meet' (x123_0, x123_1, x123_2, b119) ⟨rfl, rfl, rfl, rfl, rfl, rfl, trivial⟩ [17, 18, 19, 7, 13, 8, 9, 20, 0, 1, 2, 5] rfl rfl
                      · refine JO_st rfl (wants_none rfl) rfl (st_alloc zi_39 rfl) (fun _ hk => nomatch hk) (fun b124 => ?_)
                        refine JD_one (i := 1) (by kernel_rfl) ?_
                        refine JO_call rfl (wants_none rfl) rfl Try.call10 rfl (Ca_self (fun _ => rfl) fun w hh => c_laws_toMachine _ w (fun _ hk => hk.elim) _ _ (GMachine.rdmk (Rd.mk_int _ _ _) (Rd.mk_int _ _ _) (hh.rd0 6 rfl)) _ hr108) (fun x125 => ?_)
                        refine JD_bnd fun r126 hr127 => ?_
                        refine JD_one (i := 3) (by kernel_rfl) ?_
                        refine JO_call rfl (wants_none rfl) rfl Try.call19 rfl (Ca_self (fun _ => rfl) fun w hh => c_laws_toConfig _ w (fun _ hk => hk.elim) _ _ (GConfig.rdmk (Rd.mk_int _ _ _) (hh.rd0 6 rfl) (hh.rd0 5 rfl)) _ hr127) (fun x128 => ?_)
                        obtain ⟨x128_0, x128_1⟩ := x128
                        refine JD_bnd fun r129 hr130 => ?_
                        refine JD_one (i := 4) (by kernel_rfl) ?_
                        refine JO_call rfl (wants_none rfl) rfl Try.call27 rfl (Ca_self (fun _ => rfl) fun w hh => c_impl_DecodeBinary _ w (fun _ hk => hk.elim) _ _ (GMachine.rdmk (Rd.mk_int _ _ _) (Rd.mk_int _ _ _) (hh.ow0 2 rfl)) _ _ (GConfig.rdmk (Rd.mk_int _ _ _) (hh.ow0 0 rfl) (hh.ow0 1 rfl)) _ hr130) (fun x131 => ?_)
                        obtain ⟨x131_0, x131_1, x131_2⟩ := x131
                        refine JD_ctx (fun w hh => hh.tkn_rd 0 rfl) (fun _ hb => hb) ?_
                        refine JD_take (i := 5) hp104 rfl (by kernel_rfl) (by kernel_rfl) (by kernel_rfl) (wants_none rfl) rfl (ex_move rfl) ?_
                        refine JD_take (i := 6) hp104 rfl (by kernel_rfl) (by kernel_rfl) (by kernel_rfl) (wants_none rfl) rfl (ex_extract rfl rfl) ?_
                        refine JD_take (i := 7) hp104 rfl (by kernel_rfl) (by kernel_rfl) (by kernel_rfl) (wants_none rfl) rfl (ex_extract rfl rfl) ?_
                        refine JD_one (i := 9) (by kernel_rfl) ?_
                        refine JO_sk2 6 [] [0, 1, 2, 3, 4, 5, 6, 7, 8, 9, 10, 11, 12, 13] [7, 8, 9, 10, 11, 12, 13, 14, 15, 16, 17, 18, 19, 20] rfl rfl rfl rfl rfl rfl (wants_none rfl) (sk_store_bx' 6 ti_39 rfl rfl (fun w hh => (cv_aggs ⟨cv_int, (hh.cv 0 rfl), (hh.cv_ow 2 rfl), trivial⟩)) rfl rfl rfl rfl) (fun _ hk => hk) ?_
                        refine JD_take (i := 10) hp104 rfl (by kernel_rfl) (by kernel_rfl) (by kernel_rfl) (wants_none rfl) rfl (ex_assign rfl) ?_
                        refine JD_done (by kernel_rfl) ?_
                        exact N_meet' (x131_0, x131_1, x131_2, b124) ⟨rfl, rfl, rfl, rfl, rfl, rfl, trivial⟩ [17, 18, 19, 7, 13, 8, 9, 20, 0, 1, 2, 6] rfl rfl
                    · obtain ⟨g103_0, g103_1, g103_2, g103_3⟩ := g103
                      refine N_then ?_
                      refine J_seq ?_
                      refine J_seq ?_
                      refine J_region ?_
                      refine JL_q (wants_none rfl) rfl (ex_load_bx_agg 11 ti_39 rfl rfl rfl rfl) ?_
                      refine JL_q (wants_none rfl) rfl (ex_load_bx_agg 2 ti_39 rfl rfl rfl rfl) ?_
                      refine JL_bnd fun r132 hr133 => ?_
                      refine JL_call (wants_none rfl) rfl Try.call21 rfl (Ca_of0 fun w hh => c_laws_eqConfig _ w (fun _ hk => hk.elim) _ _ (GConfig.rdmk (Rd.mk_int _ _ _) (hh.rd0 8 rfl) (hh.ow0 10 rfl)) _ _ (GConfig.rdmk (Rd.mk_int _ _ _) (hh.ow0 0 rfl) (hh.ow0 1 rfl)) _ hr133) (fun _ => ?_)
                      refine JL_q (wants_none rfl) rfl (ex_not rfl) ?_
                      refine JL_q (wants_none rfl) rfl (ex_move rfl) ?_
                      refine JL_cond (fun h134 => ?_) (fun h134 => ?_)
                      · refine JL_passed rfl rfl rfl h134 ?_
                        refine JL_passed rfl rfl rfl h134 ?_
                        refine JL_passed rfl rfl rfl h134 ?_
                        refine JL_q (wants_none rfl) rfl (ex_pick_true rfl h134 rfl) ?_
                        refine JL_nil ?_
                        refine N_then ?_
                        refine J_if_true rfl rfl ?_
                        refine J_seq ?_
                        refine J_region ?_
                        refine JL_q (wants_none rfl) rfl (ex_assign rfl) ?_
                        refine JL_nil ?_
                        refine N_then ?_
                        refine J_ret ?_
                        refine N_then_ret ?_
                        exact N_ret1 rfl (rv_tmp rfl) (fun w hh => ⟨(), rfl, hh.sel [] rfl⟩)
                      · refine JL_q (wants_some rfl rfl rfl h134) rfl (ex_move rfl) ?_
                        refine JL_q (wants_some rfl rfl rfl h134) rfl (ex_move rfl) ?_
                        refine JL_q (wants_some rfl rfl rfl h134) rfl (ex_neq rfl rfl) ?_
                        refine JL_q (wants_none rfl) rfl (ex_pick_false rfl h134 rfl) ?_
                        refine JL_nil ?_
                        refine N_then ?_
                        refine J_if rfl (fun h135 => ?_) (fun h135 => ?_)
                        · refine J_seq ?_
                          refine J_region ?_
                          refine JL_q (wants_none rfl) rfl (ex_assign rfl) ?_
                          refine JL_nil ?_
                          refine N_then ?_
                          refine J_ret ?_
                          refine N_then_ret ?_
                          exact N_ret1 rfl (rv_tmp rfl) (fun w hh => ⟨(), rfl, hh.sel [] rfl⟩)
                        · refine J_skip ?_
                          refine N_then ?_
                          refine J_seq ?_
                          refine J_region ?_
                          refine JL_q (wants_none rfl) rfl (ex_assign rfl) ?_
                          refine JL_nil ?_
                          refine N_then ?_
                          refine J_seq ?_
                          refine J_region ?_
                          refine JL_q (wants_none rfl) rfl (ex_load_bx_agg 7 ti_39 rfl rfl rfl rfl) ?_
                          refine JL_q (wants_none rfl) rfl (ex_move rfl) ?_
                          refine JL_bnd fun r136 hr137 => ?_
                          refine JL_call (wants_none rfl) rfl Try.call23 rfl (Ca_of0 fun w hh => c_laws_heldConfig _ w (fun _ hk => hk.elim) _ _ (GConfig.rdmk (Rd.mk_int _ _ _) (hh.rd0 3 rfl) (hh.rd0 5 rfl)) _ _ hr137) (fun _ => ?_)
                          refine JL_q (wants_none rfl) rfl (ex_assign rfl) ?_
                          refine JL_nil ?_
                          refine N_then ?_
                          refine J_seq ?_
                          refine J_seq ?_
                          refine J_region ?_
                          refine JL_q (wants_none rfl) rfl (ex_move rfl) ?_
                          refine JL_q (wants_none rfl) rfl (ex_lss rfl rfl) ?_
                          refine JL_nil ?_
                          refine N_then ?_
                          refine J_if rfl (fun h138 => ?_) (fun h138 => ?_)
                          · refine J_seq ?_
                            refine J_region ?_
                            refine JL_q (wants_none rfl) rfl (ex_assign rfl) ?_
                            refine JL_nil ?_
                            refine N_then ?_
                            refine J_ret ?_
                            refine N_then_ret ?_
                            exact N_ret1 rfl (rv_tmp rfl) (fun w hh => ⟨(), rfl, hh.sel [] rfl⟩)
                          · refine J_skip ?_
                            refine N_then ?_
                            refine J_seq ?_
                            refine J_seq ?_
                            refine J_region ?_
                            refine JL_q (wants_none rfl) rfl (ex_move rfl) ?_
                            refine JL_q (wants_none rfl) rfl (ex_move rfl) ?_
                            refine JL_q (wants_none rfl) rfl (ex_neq rfl rfl) ?_
                            refine JL_nil ?_
                            refine N_then ?_
                            refine J_if rfl (fun h139 => ?_) (fun h139 => ?_)
                            · refine J_seq ?_
                              refine J_region ?_
                              refine JL_q (wants_none rfl) rfl (ex_assign rfl) ?_
                              refine JL_nil ?_
                              refine N_then ?_
                              refine J_ret ?_
                              refine N_then_ret ?_
                              exact N_ret1 rfl (rv_tmp rfl) (fun w hh => ⟨(), rfl, hh.sel [] rfl⟩)
                            · refine J_skip ?_
                              refine N_then ?_
                              refine J_seq ?_
                              refine J_region ?_
                              refine JL_q (wants_none rfl) rfl (ex_assign rfl) ?_
                              refine JL_nil ?_
                              refine N_then ?_
                              refine J_ret ?_
                              exact N_ret1 rfl (rv_tmp rfl) (fun w hh => ⟨(), rfl, hh.sel [] rfl⟩)

end Go.Proofs.Ytceimgjcikkadaa
