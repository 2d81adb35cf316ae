/-
  Each function of the program computes what its plain function says: printed by program. No condition.
-/
import Derived.Test.YtafjflnnkdbmdaaFn
import Derived.Test.YtafjflnnkdbmdaaInf
import Derived.Test.YtafjflnnkdbmdaaCon4
namespace Go.Proofs.Ytafjflnnkdbmdaa
open Go Go.Tc Go.Fn
set_option linter.unusedVariables false

set_option maxHeartbeats 40000000 in
theorem c_impl_OneTapeMachine (A : Nat → Prop) (w : World) (hA : ∀ k, A k → k < w.heap.size) (v0_ : Value) (p0 : GMulti) (hp0 : Rd A w v0_ p0) (r : GMachine × Int) (hr : F_impl_OneTapeMachine p0 = some r) :
    Con Try.prog 7 [v0_] A w (fun x_ : Value => .tuple #[.agg #[.int .i64 r.1.Symbols, .int .i64 r.1.States, x_], .int .i64 r.2]) (fun x_ => [.ow 91 x_ r.1.Rules]) := by
  obtain ⟨v0_0, rfl, hp0_0⟩ := GMulti.open hp0
  refine Con_of (v := fun (r : GMachine × Int) (x_ : Value) => .tuple #[.agg #[.int .i64 r.1.Symbols, .int .i64 r.1.States, x_], .int .i64 r.2]) (fs := fun r x_ => [.ow 91 x_ r.1.Rules]) Try.func7 rfl Try.ntmps7 rfl ((SH.start hA).start_rd rfl hp0_0) rfl ?_ hr
  unfold F_impl_OneTapeMachine
  refine J_seq ?_
  refine J_region ?_
  refine JL_st (wants_none rfl) rfl (st_box' rfl (fun w hh => (cv_aggs ⟨cv_int, cv_int, cv_int, (hh.cv 0 rfl), trivial⟩))) (fun b1 => ?_)
  refine JL_st (wants_none rfl) rfl (st_alloc zi_28 rfl) (fun b2 => ?_)
  refine JL_q (wants_none rfl) rfl (ex_assign rfl) ?_
  refine JL_nil ?_
  refine N_then ?_
  refine J_seq ?_
  refine J_seq ?_
  refine J_region ?_
  refine JL_q (wants_none rfl) rfl (ex_load_bx_agg 1 ti_33 rfl rfl rfl rfl) ?_
  refine JL_bnd fun r3 hr4 => ?_
  refine JL_call (wants_none rfl) rfl Try.call17 rfl (Ca_of0 fun w hh => c_impl_ValidMulti _ w (fun _ hk => hk.elim) _ _ (GMulti.rdmk (Rd.mk_int _ _ _) (Rd.mk_int _ _ _) (Rd.mk_int _ _ _) (hh.rd0 2 rfl)) _ hr4) (fun _ => ?_)
  refine JL_q (wants_none rfl) rfl (ex_not rfl) ?_
  refine JL_nil ?_
  refine N_then ?_
  refine J_if rfl (fun h5 => ?_) (fun h5 => ?_)
  · refine J_seq ?_
    refine J_region ?_
    refine JL_q (wants_none rfl) rfl (ex_build si_28 rfl .nil (fun w hh => trivial)) ?_
    refine JL_sk (wants_none rfl) (sk_store_bx' 0 ti_28 rfl rfl (fun w hh => (cv_aggs ⟨cv_int, cv_int, cv_slice, trivial⟩)) rfl rfl rfl rfl) ?_
    refine JL_q (wants_none rfl) rfl (ex_assign rfl) ?_
    refine JL_nil ?_
    refine N_then ?_
    refine J_ret ?_
    refine N_then_ret ?_
    refine N_ctx (fun w hh => SH.ow_nil (α := GRule) 91 hh) ?_
    exact N_ret2 rfl (rv_cell 1 rfl rfl ti_28 rfl) (rv_tmp rfl) (fun w hh => ⟨(.slice none 0 0 : Value), rfl, hh.sel [0] rfl⟩)
  · refine J_skip ?_
    refine N_then ?_
    refine J_seq ?_
    refine J_region ?_
    refine JL_q (wants_none rfl) rfl (ex_load_bx_agg 1 ti_33 rfl rfl rfl rfl) ?_
    refine JL_inline (wants_none rfl) rfl Try.call19 rfl Try.func19 rfl Try.ntmps19 rfl rfl (fun K_ hK6 => ?_)
    refine J_seq ?_
    refine J_region ?_
    refine JL_st (wants_none rfl) rfl (st_box' rfl (fun w hh => (cv_aggs ⟨cv_int, cv_int, cv_int, (hh.cv 2 rfl), trivial⟩))) (fun b7 => ?_)
    refine JL_q (wants_none rfl) rfl (ex_assign rfl) ?_
    refine JL_q (wants_none rfl) rfl (ex_assign rfl) ?_
    refine JL_nil ?_
    refine N_then ?_
    refine J_seq ?_
    refine J_draw [2] (by kernel_rfl) ?_
    refine JP_take (i := 0) [0, 1, 3] [2] rfl (by kernel_rfl) (by kernel_rfl) (by kernel_rfl) rfl rfl (wants_none rfl) rfl (ex_load_bx_agg 0 ti_33 rfl rfl rfl rfl) ?_
    refine JP_take (i := 1) [0, 1, 3] [2] rfl (by kernel_rfl) (by kernel_rfl) (by kernel_rfl) rfl rfl (wants_none rfl) rfl (ex_load_bx_agg 0 ti_33 rfl rfl rfl rfl) ?_
    refine JP_go [0, 1, 3] [2] rfl rfl rfl (fun w9 h1_10 hp8 => ?_)
    refine JD_one (i := 2) (by kernel_rfl) ?_
    refine JO_inline h1_10 [2] [0, 1] rfl rfl rfl rfl (wants_none rfl) rfl Try.call35 rfl Try.func35 rfl Try.ntmps35 rfl rfl (fun C12 K_ hK11 => ?_)
    refine J_seq ?_
    refine J_region ?_
    refine JL_st (wants_none rfl) rfl (st_box' rfl (fun w hh => (cv_aggs ⟨cv_int, cv_int, cv_int, (hh.cv 4 rfl), trivial⟩))) (fun b13 => ?_)
    refine JL_q (wants_none rfl) rfl (ex_assign rfl) ?_
    refine JL_nil ?_
    refine N_then ?_
    refine J_seq ?_
    refine J_region ?_
    refine JL_st (wants_none rfl) rfl (st_makeMap (κ := Greading) (ν := Int) (enc := Greading.enc) (venc := (Value.int .i64))) (fun b14 => ?_)
    refine JL_q (wants_none rfl) rfl (ex_assign rfl) ?_
    refine JL_nil ?_
    refine N_then ?_
    refine J_seq ?_
    refine J_seq ?_
    refine J_region ?_
    refine JL_q (wants_none rfl) rfl (ex_fieldAddr fi_33_3 rfl rfl) ?_
    refine JL_q (wants_none rfl) rfl (ex_load_bx 1 ti_31 rfl rfl rfl) ?_
    refine JL_q (wants_none rfl) rfl (ex_len_rd 6 Try.underlying31 rfl rfl) ?_
    refine JL_q (wants_none rfl) rfl (ex_move rfl) ?_
    refine JL_nil ?_
    refine N_then ?_
    refine J_loop' (S := List (Greading × Int) × Int) (G := Unit) (F_impl_OneTapeMachine_L1 p0) (fun s15 _ => [(3, .map (some b14)), (9, v0_0), (10, .int .i64 (p0.Rules.length : Int)), (11, .int .i64 s15.2)]) (fun s15 _ => [.fz w9 C12, mpf Greading.enc (Value.int .i64) b14 s15.1, .rd v0_0 p0.Rules, .bx b2 28 [.int .i64 0, .int .i64 0, .slice none 0 0], .bx b7 33 [.int .i64 p0.Tapes, .int .i64 p0.Symbols, .int .i64 p0.States, v0_0]]) (([] : List (Greading × Int)), 0) () ⟨rfl, rfl, rfl, rfl, trivial⟩ [2, 0, 6, 4, 3] rfl rfl (fun s15 g16 => ?_) (fun s15 g16 => ?_)
    · unfold F_impl_OneTapeMachine_L1
      refine J_seq ?_
      refine J_region ?_
      refine JL_q (wants_none rfl) rfl (ex_lss rfl rfl) ?_
      refine JL_nil ?_
      refine N_then ?_
      refine J_seq ?_
      refine J_if rfl (fun h17 => ?_) (fun h17 => ?_)
      · refine J_skip ?_
        refine N_then ?_
        refine J_seq ?_
        refine J_block ?_
        refine J_seq ?_
        refine J_region ?_
        refine JL_q (wants_none rfl) rfl (ex_move rfl) ?_
        refine JL_bnd fun y18 hy19 => ?_
        refine JL_st (wants_none rfl) rfl (st_index 2 Try.underlying31 ti_69 rfl rfl rfl hy19) (fun q20 => ?_)
        refine JL_st (wants_none rfl) rfl (st_load_pt_o 0 (GMultiRule.opens _) ti_69 rfl rfl) (fun v21 => ?_)
        refine JL_st (wants_none rfl) rfl (st_alloc zi_69 rfl) (fun b22 => ?_)
        refine JL_q (wants_none rfl) rfl (ex_assign rfl) ?_
        refine JL_sk (wants_none rfl) (sk_store_bx' 0 ti_69 rfl rfl (fun w hh => (cv_aggs ⟨cv_int, (hh.cv 1 rfl), (hh.cv 2 rfl), (hh.cv 3 rfl), cv_int, trivial⟩)) rfl rfl rfl rfl) ?_
        refine JL_nil ?_
        refine N_then ?_
        refine J_seq ?_
        refine J_region ?_
        refine JL_q (wants_none rfl) rfl (ex_fieldAddr fi_69_0 rfl rfl) ?_
        refine JL_q (wants_none rfl) rfl (ex_load_bx 0 ti_2 rfl rfl rfl) ?_
        refine JL_q (wants_none rfl) rfl (ex_build si_104 rfl (.cons fi_104_0 rfl rfl .nil) (fun w hh => ⟨cv_int, trivial⟩)) ?_
        refine JL_st (wants_none rfl) rfl (st_alloc zi_104 rfl) (fun b23 => ?_)
        refine JL_sk (wants_none rfl) (sk_store_bx' 0 ti_104 rfl rfl (fun w hh => (cv_aggs ⟨cv_int, cv_int, cv_int, cv_int, trivial⟩)) rfl rfl rfl rfl) ?_
        refine JL_nil ?_
        refine N_then ?_
        refine J_seq ?_
        refine J_draw [0] (by kernel_rfl) ?_
        refine JP_take (i := 0) [1, 2, 3, 4, 5, 6, 7, 8, 9, 10] [0] rfl (by kernel_rfl) (by kernel_rfl) (by kernel_rfl) rfl rfl (wants_none rfl) rfl (ex_fieldAddr fi_104_1 rfl rfl) ?_
        refine JP_take (i := 1) [1, 2, 3, 4, 5, 6, 7, 8, 9, 10] [0] rfl (by kernel_rfl) (by kernel_rfl) (by kernel_rfl) rfl rfl (wants_none rfl) rfl (ex_slice_bx Try.underlying53 ti_2 rfl) ?_
        refine JP_take (i := 2) [1, 2, 3, 4, 5, 6, 7, 8, 9, 10] [0] rfl (by kernel_rfl) (by kernel_rfl) (by kernel_rfl) rfl rfl (wants_none rfl) rfl (ex_fieldAddr fi_69_1 rfl rfl) ?_
        refine JP_take (i := 3) [1, 2, 3, 4, 5, 6, 7, 8, 9, 10] [0] rfl (by kernel_rfl) (by kernel_rfl) (by kernel_rfl) rfl rfl (wants_none rfl) rfl (ex_load_bx 0 ti_64 rfl rfl rfl) ?_
        refine JP_go [1, 2, 3, 4, 5, 6, 7, 8, 9, 10] [0] rfl rfl rfl (fun w25 h1_26 hp24 => ?_)
        refine JD_one (i := 4) (by kernel_rfl) ?_
        refine JO_st rfl (wants_none rfl) rfl (st_copy_bx [0, 0, 0] 0 Try.underlying64 ti_2 rfl rfl rfl rfl rfl rfl rfl (fun w hh => hh.src_rd 2 rfl)) (sub_bx 0 rfl) (fun _ => ?_)
        refine JD_done (by kernel_rfl) ?_
        refine N_then ?_
        refine J_region ?_
        refine JL_q (wants_none rfl) rfl (ex_move rfl) ?_
        refine JL_q (wants_none rfl) rfl (ex_load_bx_agg 0 ti_104 rfl rfl rfl rfl) ?_
        refine JL_q (wants_none rfl) rfl (ex_move rfl) ?_
        refine JL_sk (wants_none rfl) (sk_mapUpdate (x := (⟨y18.State, (y18.Read.getD 0 0), (y18.Read.getD 1 0), (y18.Read.getD 2 0)⟩ : Greading)) (y := s15.2) 7 key_104 Try.underlying82 rfl rfl rfl rfl rfl rfl rfl rfl) ?_
        refine JL_nil ?_
        refine N_block ?_
        refine N_then ?_
        refine J_region ?_
        refine JL_q (wants_none rfl) rfl (ex_add rfl rfl) ?_
        refine JL_q (wants_none rfl) rfl (ex_move rfl) ?_
        refine JL_nil ?_
        exact N_next' () ⟨rfl, rfl, rfl, rfl, trivial⟩ [6, 7, 8, 9, 10] rfl rfl
      · refine J_exit ?_
        refine N_then_exit ?_
        exact N_break' () ⟨rfl, rfl, rfl, rfl, trivial⟩ [0, 1, 2, 3, 4] rfl rfl
    · refine N_then ?_
      refine J_seq ?_
      refine J_region ?_
      refine JL_q (wants_none rfl) rfl (ex_move rfl) ?_
      refine JL_q (wants_none rfl) rfl (ex_assign rfl) ?_
      refine JL_nil ?_
      refine N_then ?_
      refine J_ret ?_
      refine N_inlD1 hK11 rfl (rv_tmp rfl) 0 [4, 3] rfl rfl ?_
      refine JD_one (i := 3) (by kernel_rfl) ?_
      refine JO_q rfl (wants_none rfl) rfl (ex_buildN [(0, .agg #[.int .i64 p0.Tapes, .int .i64 p0.Symbols, .int .i64 p0.States, v0_0], [.int .i64 p0.Tapes, .int .i64 p0.Symbols, .int .i64 p0.States, v0_0]), (1, .map (some b14), [.map (some b14)])] si_85 rfl (.cons fi_85_0 rfl rfl rfl (.cons fi_85_1 rfl rfl rfl .nil)) (fun w hh => ⟨(cv_aggs ⟨cv_int, cv_int, cv_int, (hh.cv 2 rfl), trivial⟩), cv_map, trivial⟩)) ?_
      refine JD_one (i := 4) (by kernel_rfl) ?_
      refine JO_st rfl (wants_none rfl) rfl (st_box' rfl (fun w hh => (cv_aggs ⟨cv_int, cv_int, cv_int, (hh.cv 2 rfl), cv_map, trivial⟩))) (fun _ hk => nomatch hk) (fun b27 => ?_)
      refine JD_take (i := 5) hp8 rfl (by kernel_rfl) (by kernel_rfl) (by kernel_rfl) (wants_none rfl) rfl (ex_assign rfl) ?_
      refine JD_done (by kernel_rfl) ?_
      refine N_then ?_
      refine J_seq ?_
      refine J_draw [2] (by kernel_rfl) ?_
      refine JP_take (i := 0) [0, 1, 3, 4, 5] [2] rfl (by kernel_rfl) (by kernel_rfl) (by kernel_rfl) rfl rfl (wants_none rfl) rfl (ex_fieldAddr fi_33_1 rfl rfl) ?_
      refine JP_take (i := 1) [0, 1, 3, 4, 5] [2] rfl (by kernel_rfl) (by kernel_rfl) (by kernel_rfl) rfl rfl (wants_none rfl) rfl (ex_load_bx 4 ti_2 rfl rfl rfl) ?_
      refine JP_take (i := 2) [0, 1, 3, 4, 5] [2] rfl (by kernel_rfl) (by kernel_rfl) (by kernel_rfl) rfl rfl (wants_none rfl) rfl (ex_mul rfl rfl) ?_
      refine JP_take (i := 4) [0, 1, 3, 4, 5] [2] rfl (by kernel_rfl) (by kernel_rfl) (by kernel_rfl) rfl rfl (wants_none rfl) rfl (ex_move rfl) ?_
      refine JP_take (i := 5) [0, 1, 3, 4, 5] [2] rfl (by kernel_rfl) (by kernel_rfl) (by kernel_rfl) rfl rfl (wants_none rfl) rfl (ex_makeFuncB rfl) ?_
      refine JP_go [0, 1, 3, 4, 5] [2] rfl rfl rfl (fun w29 h1_30 hp28 => ?_)
      refine JD_bnd fun r31 hr32 => ?_
      refine JD_one (i := 3) (by kernel_rfl) ?_
      refine JO_call rfl (wants_none rfl) rfl Try.call37 rfl (Ca_of0 fun w hh => c_impl_look _ w (fun _ hk => hk.elim) _ _ hr32) (fun _ => ?_)
      refine JD_one (i := 6) (by kernel_rfl) ?_
      refine JO_inline h1_30 [2] [0, 4, 5] rfl rfl rfl rfl (wants_none rfl) rfl Try.call36 rfl Try.func36 rfl Try.ntmps36 rfl rfl (fun C34 K_ hK33 => ?_)
      refine J_seq ?_
      refine J_region ?_
      refine JL_st (wants_none rfl) rfl (st_box' rfl (fun w hh => (cv_aggs ⟨cv_int, cv_int, cv_int, cv_int, cv_int, cv_int, cv_int, cv_int, trivial⟩))) (fun b35 => ?_)
      refine JL_q (wants_none rfl) rfl (ex_assign rfl) ?_
      refine JL_q (wants_none rfl) rfl (ex_assign rfl) ?_
      refine JL_nil ?_
      refine N_then ?_
      refine J_seq ?_
      refine J_region ?_
      refine JL_q (wants_none rfl) rfl (ex_move rfl) ?_
      refine JL_q (wants_none rfl) rfl (ex_build si_28 rfl (.cons fi_28_0 rfl rfl .nil) (fun w hh => ⟨cv_int, trivial⟩)) ?_
      refine JL_st (wants_none rfl) rfl (st_makeMap (κ := GmultiPlace) (ν := Int) (enc := GmultiPlace.enc) (venc := (Value.int .i64))) (fun b36 => ?_)
      refine JL_q (wants_none rfl) rfl (ex_buildN [(0, .agg #[.int .i64 (w64 (2 * p0.Symbols)), .int .i64 0, .slice none 0 0], [.int .i64 (w64 (2 * p0.Symbols)), .int .i64 0, .slice none 0 0]), (2, .map (some b36), [.map (some b36)])] si_80 rfl (.cons fi_80_0 rfl rfl rfl (.cons fi_80_2 rfl rfl rfl .nil)) (fun w hh => ⟨(cv_aggs ⟨cv_int, cv_int, cv_slice, trivial⟩), cv_map, trivial⟩)) ?_
      refine JL_st (wants_none rfl) rfl (st_box' rfl (fun w hh => (cv_aggs ⟨cv_int, cv_int, cv_slice, cv_slice, cv_map, trivial⟩))) (fun b37 => ?_)
      refine JL_q (wants_none rfl) rfl (ex_assign rfl) ?_
      refine JL_nil ?_
      refine N_then ?_
      refine J_seq ?_
      refine J_region ?_
      refine JL_q (wants_none rfl) rfl (ex_move rfl) ?_
      refine JL_q (wants_none rfl) rfl (ex_load_bx_agg 2 ti_55 rfl rfl rfl rfl) ?_
      refine JL_inline (wants_none rfl) rfl Try.call51 rfl Try.func51 rfl Try.ntmps51 rfl rfl (fun K_ hK38 => ?_)
      refine J_seq ?_
      refine J_region ?_
      refine JL_st (wants_none rfl) rfl (st_box' rfl (fun w hh => (cv_aggs ⟨cv_int, cv_int, cv_int, cv_int, cv_int, cv_int, cv_int, cv_int, trivial⟩))) (fun b39 => ?_)
      refine JL_q (wants_none rfl) rfl (ex_assign rfl) ?_
      refine JL_nil ?_
      refine N_then ?_
      refine J_seq ?_
      refine J_draw [] (by kernel_rfl) ?_
      refine JP_take (i := 0) [0, 1, 2, 3, 4, 5, 6, 7, 8, 9, 10] [] rfl (by kernel_rfl) (by kernel_rfl) (by kernel_rfl) rfl rfl (wants_none rfl) rfl (ex_move rfl) ?_
      refine JP_take (i := 1) [0, 1, 2, 3, 4, 5, 6, 7, 8, 9, 10] [] rfl (by kernel_rfl) (by kernel_rfl) (by kernel_rfl) rfl rfl (wants_none rfl) rfl (ex_nilCheck rfl) ?_
      refine JP_take (i := 2) [0, 1, 2, 3, 4, 5, 6, 7, 8, 9, 10] [] rfl (by kernel_rfl) (by kernel_rfl) (by kernel_rfl) rfl rfl (wants_none rfl) rfl (ex_fieldAddr fi_80_2 rfl rfl) ?_
      refine JP_take (i := 3) [0, 1, 2, 3, 4, 5, 6, 7, 8, 9, 10] [] rfl (by kernel_rfl) (by kernel_rfl) (by kernel_rfl) rfl rfl (wants_none rfl) rfl (ex_load_bx 1 ti_78 rfl rfl rfl) ?_
      refine JP_take (i := 4) [0, 1, 2, 3, 4, 5, 6, 7, 8, 9, 10] [] rfl (by kernel_rfl) (by kernel_rfl) (by kernel_rfl) rfl rfl (wants_none rfl) rfl (ex_load_bx_agg 0 ti_55 rfl rfl rfl rfl) ?_
      refine JP_take (i := 5) [0, 1, 2, 3, 4, 5, 6, 7, 8, 9, 10] [] rfl (by kernel_rfl) (by kernel_rfl) (by kernel_rfl) rfl rfl (wants_none rfl) rfl (ex_lookup_ok (x := r31) (z := 0) 2 key_55 Try.underlying78 zi_2 rfl rfl rfl rfl rfl) ?_
      refine JP_take (i := 6) [0, 1, 2, 3, 4, 5, 6, 7, 8, 9, 10] [] rfl (by kernel_rfl) (by kernel_rfl) (by kernel_rfl) rfl rfl (wants_none rfl) rfl (ex_move rfl) ?_
      refine JP_take (i := 7) [0, 1, 2, 3, 4, 5, 6, 7, 8, 9, 10] [] rfl (by kernel_rfl) (by kernel_rfl) (by kernel_rfl) rfl rfl (wants_none rfl) rfl (ex_extract rfl rfl) ?_
      refine JP_take (i := 8) [0, 1, 2, 3, 4, 5, 6, 7, 8, 9, 10] [] rfl (by kernel_rfl) (by kernel_rfl) (by kernel_rfl) rfl rfl (wants_none rfl) rfl (ex_extract rfl rfl) ?_
      refine JP_take (i := 9) [0, 1, 2, 3, 4, 5, 6, 7, 8, 9, 10] [] rfl (by kernel_rfl) (by kernel_rfl) (by kernel_rfl) rfl rfl (wants_none rfl) rfl (ex_assign rfl) ?_
      refine JP_take (i := 10) [0, 1, 2, 3, 4, 5, 6, 7, 8, 9, 10] [] rfl (by kernel_rfl) (by kernel_rfl) (by kernel_rfl) rfl rfl (wants_none rfl) rfl (ex_assign rfl) ?_
      refine JP_go [] [] rfl rfl rfl (fun _ _ _ => ?_)
      refine JD_done (by kernel_rfl) ?_
      refine N_then ?_
      refine J_seq ?_
      refine J_cut' (S' := Int × (List GmultiPlace) × List (GmultiPlace × Int)) (G' := Value) (fun s40 g41 => [(5, .int .i64 s40.1)]) (fun s40 g41 => [.fz w29 C34, .fz w9 C12, .bx b2 28 [.int .i64 0, .int .i64 0, .slice none 0 0], .rd v0_0 p0.Rules, mpf Greading.enc (Value.int .i64) b14 s15.1, .bx b27 85 [.int .i64 p0.Tapes, .int .i64 p0.Symbols, .int .i64 p0.States, v0_0, .map (some b14)], .bx b7 33 [.int .i64 p0.Tapes, .int .i64 p0.Symbols, .int .i64 p0.States, v0_0], .ow 55 g41 s40.2.1, mpf GmultiPlace.enc (Value.int .i64) b36 s40.2.2, .bx b37 80 [.int .i64 (w64 (2 * p0.Symbols)), .int .i64 0, .slice none 0 0, g41, .map (some b36)]]) ?_ (fun s40 g41 => ?_)
      · refine J_seq ?_
        refine J_region ?_
        refine JL_q (wants_none rfl) rfl (ex_move rfl) ?_
        refine JL_q (wants_none rfl) rfl (ex_not rfl) ?_
        refine JL_nil ?_
        refine N_then ?_
        refine J_if rfl (fun h42 => ?_) (fun h42 => ?_)
        · refine J_seq ?_
          refine J_region ?_
          refine JL_q (wants_none rfl) rfl (ex_move rfl) ?_
          refine JL_q (wants_none rfl) rfl (ex_nilCheck rfl) ?_
          refine JL_q (wants_none rfl) rfl (ex_fieldAddr fi_80_1 rfl rfl) ?_
          refine JL_q (wants_none rfl) rfl (ex_load_bx 1 ti_77 rfl rfl rfl) ?_
          refine JL_bnd fun r43 hr44 => ?_
          refine JL_call (wants_none rfl) rfl Try.call53 rfl (Ca_of0 fun w hh => c_impl_size_impl_multiPlace _ w (fun _ hk => hk.elim) _ _ rdNil _ hr44) (fun _ => ?_)
          refine JL_q (wants_none rfl) rfl (ex_assign rfl) ?_
          refine JL_nil ?_
          refine N_then ?_
          refine J_seq ?_
          refine J_draw [2] (by kernel_rfl) ?_
          refine JP_take (i := 0) [0, 1, 3, 4, 5, 6, 7, 8, 9, 10] [2] rfl (by kernel_rfl) (by kernel_rfl) (by kernel_rfl) rfl rfl (wants_none rfl) rfl (ex_move rfl) ?_
          refine JP_take (i := 1) [0, 1, 3, 4, 5, 6, 7, 8, 9, 10] [2] rfl (by kernel_rfl) (by kernel_rfl) (by kernel_rfl) rfl rfl (wants_none rfl) rfl (ex_nilCheck rfl) ?_
          refine JP_take (i := 2) [0, 1, 3, 4, 5, 6, 7, 8, 9, 10] [2] rfl (by kernel_rfl) (by kernel_rfl) (by kernel_rfl) rfl rfl (wants_none rfl) rfl (ex_fieldAddr fi_80_2 rfl rfl) ?_
          refine JP_take (i := 3) [0, 1, 3, 4, 5, 6, 7, 8, 9, 10] [2] rfl (by kernel_rfl) (by kernel_rfl) (by kernel_rfl) rfl rfl (wants_none rfl) rfl (ex_load_bx 1 ti_78 rfl rfl rfl) ?_
          refine JP_take (i := 4) [0, 1, 3, 4, 5, 6, 7, 8, 9, 10] [2] rfl (by kernel_rfl) (by kernel_rfl) (by kernel_rfl) rfl rfl (wants_none rfl) rfl (ex_load_bx_agg 0 ti_55 rfl rfl rfl rfl) ?_
          refine JP_take (i := 5) [0, 1, 3, 4, 5, 6, 7, 8, 9, 10] [2] rfl (by kernel_rfl) (by kernel_rfl) (by kernel_rfl) rfl rfl (wants_none rfl) rfl (ex_move rfl) ?_
          refine JP_go [0, 1, 3, 4, 5, 6, 7, 8, 9, 10] [2] rfl rfl rfl (fun w46 h1_47 hp45 => ?_)
          refine JD_one (i := 6) (by kernel_rfl) ?_
          refine JO_sk rfl (wants_none rfl) (sk_mapUpdate (x := r31) (y := r43) 2 key_55 Try.underlying78 rfl rfl rfl rfl rfl rfl rfl rfl) (sub_mp 0 rfl) ?_
          refine JD_done (by kernel_rfl) ?_
          refine N_then ?_
          refine J_draw [1] (by kernel_rfl) ?_
          refine JP_take (i := 0) [0, 2, 3, 4, 5, 6, 7, 8, 9, 10] [1] rfl (by kernel_rfl) (by kernel_rfl) (by kernel_rfl) rfl rfl (wants_none rfl) rfl (ex_move rfl) ?_
          refine JP_take (i := 1) [0, 2, 3, 4, 5, 6, 7, 8, 9, 10] [1] rfl (by kernel_rfl) (by kernel_rfl) (by kernel_rfl) rfl rfl (wants_none rfl) rfl (ex_move rfl) ?_
          refine JP_take (i := 2) [0, 2, 3, 4, 5, 6, 7, 8, 9, 10] [1] rfl (by kernel_rfl) (by kernel_rfl) (by kernel_rfl) rfl rfl (wants_none rfl) rfl (ex_nilCheck rfl) ?_
          refine JP_take (i := 3) [0, 2, 3, 4, 5, 6, 7, 8, 9, 10] [1] rfl (by kernel_rfl) (by kernel_rfl) (by kernel_rfl) rfl rfl (wants_none rfl) rfl (ex_fieldAddr fi_80_1 rfl rfl) ?_
          refine JP_take (i := 5) [0, 2, 3, 4, 5, 6, 7, 8, 9, 10] [1] rfl (by kernel_rfl) (by kernel_rfl) (by kernel_rfl) rfl rfl (wants_none rfl) rfl (ex_load_bx_agg 0 ti_55 rfl rfl rfl rfl) ?_
          refine JP_go [0, 2, 3, 4, 5, 6, 7, 8, 9, 10] [1] rfl rfl rfl (fun w49 h1_50 hp48 => ?_)
          refine JD_two (i := 4) (j := 6) (by kernel_rfl) ?_ ?_
          · refine JO_q rfl (wants_none rfl) rfl (ex_load_bx 1 ti_77 rfl rfl rfl) ?_
            refine JD_one (i := 6) (by kernel_rfl) ?_
            refine JO_st rfl (wants_none rfl) rfl (st_buildSlice (vs := [.agg #[.int .i64 r31.kind, .int .i64 r31.at_, .int .i64 r31.tape, .int .i64 r31.count, .int .i64 r31.found_0, .int .i64 r31.found_1, .int .i64 r31.found_2, .int .i64 r31.done]]) ([r31] : List GmultiPlace) Try.underlying77 ti_55 zi_55 rfl rfl rfl (fun w hh => ⟨(GmultiPlace.rdmk (Rd.mk_int _ _ _) (Rd.mk_int _ _ _) (Rd.mk_int _ _ _) (Rd.mk_int _ _ _) (Rd.mk_int _ _ _) (Rd.mk_int _ _ _) (Rd.mk_int _ _ _) (Rd.mk_int _ _ _)), trivial⟩)) (fun _ hk => nomatch hk) (fun b51 => ?_)
            refine JD_bnd fun z52 hz53 => ?_
            refine JD_one (i := 7) (by kernel_rfl) ?_
            refine JO_ctx (fun w hh => SH.ow_nil (α := GmultiPlace) 55 hh) (fun _ hb => hb) ?_
            refine JO_st rfl (wants_none rfl) rfl (st_append 0 Try.underlying77 ti_55 zi_55 rfl bi_55 rfl rfl rfl rfl (fun w hh => hh.src_ow 1 rfl) hz53) (fun _ hk => absurd hk List.not_mem_nil) (fun v54 => ?_)
            refine JD_take (i := 8) hp48 rfl (by kernel_rfl) (by kernel_rfl) (by kernel_rfl) (wants_none rfl) rfl (ex_nilCheck rfl) ?_
            refine JD_take (i := 9) hp48 rfl (by kernel_rfl) (by kernel_rfl) (by kernel_rfl) (wants_none rfl) rfl (ex_fieldAddr fi_80_1 rfl rfl) ?_
            refine JD_one (i := 10) (by kernel_rfl) ?_
            refine JO_sk rfl (wants_none rfl) (sk_store_bx' 3 ti_77 rfl rfl (fun w hh => (hh.cv_ow 0 rfl)) rfl rfl rfl rfl) (sub_bx 0 rfl) ?_
            refine JD_done (by kernel_rfl) ?_
            exact N_meet' v54 ⟨rfl, trivial⟩ [6, 8, 11, 10, 9, 7, 12, 0, 4, 3] rfl rfl
          · refine JO_st rfl (wants_none rfl) rfl (st_buildSlice (vs := [.agg #[.int .i64 r31.kind, .int .i64 r31.at_, .int .i64 r31.tape, .int .i64 r31.count, .int .i64 r31.found_0, .int .i64 r31.found_1, .int .i64 r31.found_2, .int .i64 r31.done]]) ([r31] : List GmultiPlace) Try.underlying77 ti_55 zi_55 rfl rfl rfl (fun w hh => ⟨(GmultiPlace.rdmk (Rd.mk_int _ _ _) (Rd.mk_int _ _ _) (Rd.mk_int _ _ _) (Rd.mk_int _ _ _) (Rd.mk_int _ _ _) (Rd.mk_int _ _ _) (Rd.mk_int _ _ _) (Rd.mk_int _ _ _)), trivial⟩)) (fun _ hk => nomatch hk) (fun b55 => ?_)
            refine JD_one (i := 4) (by kernel_rfl) ?_
            refine JO_q rfl (wants_none rfl) rfl (ex_load_bx 2 ti_77 rfl rfl rfl) ?_
            refine JD_bnd fun z56 hz57 => ?_
            refine JD_one (i := 7) (by kernel_rfl) ?_
            refine JO_ctx (fun w hh => SH.ow_nil (α := GmultiPlace) 55 hh) (fun _ hb => hb) ?_
            refine JO_st rfl (wants_none rfl) rfl (st_append 0 Try.underlying77 ti_55 zi_55 rfl bi_55 rfl rfl rfl rfl (fun w hh => hh.src_ow 1 rfl) hz57) (fun _ hk => absurd hk List.not_mem_nil) (fun v58 => ?_)
            refine JD_take (i := 8) hp48 rfl (by kernel_rfl) (by kernel_rfl) (by kernel_rfl) (wants_none rfl) rfl (ex_nilCheck rfl) ?_
            refine JD_take (i := 9) hp48 rfl (by kernel_rfl) (by kernel_rfl) (by kernel_rfl) (wants_none rfl) rfl (ex_fieldAddr fi_80_1 rfl rfl) ?_
            refine JD_one (i := 10) (by kernel_rfl) ?_
            refine JO_sk rfl (wants_none rfl) (sk_store_bx' 3 ti_77 rfl rfl (fun w hh => (hh.cv_ow 0 rfl)) rfl rfl rfl rfl) (sub_bx 0 rfl) ?_
            refine JD_done (by kernel_rfl) ?_
            exact N_meet' v58 ⟨rfl, trivial⟩ [6, 8, 11, 10, 9, 7, 12, 0, 4, 3] rfl rfl
        · refine J_skip ?_
          refine N_ctx (fun w hh => SH.ow_nil (α := GmultiPlace) 55 hh) ?_
          exact N_meet' (.slice none 0 0 : Value) ⟨rfl, trivial⟩ [5, 7, 10, 9, 8, 6, 11, 0, 3, 2] rfl rfl
      · refine N_then ?_
        refine J_seq ?_
        refine J_region ?_
        refine JL_q (wants_none rfl) rfl (ex_move rfl) ?_
        refine JL_q (wants_none rfl) rfl (ex_assign rfl) ?_
        refine JL_nil ?_
        refine N_then ?_
        refine J_ret ?_
        refine N_inl1 hK38 rfl (rv_tmp rfl) ?_
        refine JL_nil ?_
        refine N_then ?_
        refine J_seq ?_
        refine J_seq ?_
        refine J_region ?_
        refine JL_q (wants_none rfl) rfl (ex_assign rfl) ?_
        refine JL_nil ?_
        refine N_then ?_
        refine J_ctx (fun w hh => SH.ow_nil (α := GRule) 91 hh) ?_
        refine J_loop' (S := (List GRule) × (List GmultiPlace) × List (GmultiPlace × Int) × Int) (G := Value × Value) (F_impl_OneTapeMachine_L2 p0 s15) (fun s59 g60 => [(0, .int .i64 (w64 (2 * p0.Symbols))), (2, .func (.func 38) #[.pointer (some ⟨b27, 0, none⟩)] #[]), (8, .pointer (some ⟨b37, 0, none⟩)), (9, .int .i64 s59.2.2.2)]) (fun s59 g60 => [.fz w29 C34, .fz w9 C12, .rd v0_0 p0.Rules, mpf Greading.enc (Value.int .i64) b14 s15.1, .bx b27 85 [.int .i64 p0.Tapes, .int .i64 p0.Symbols, .int .i64 p0.States, v0_0, .map (some b14)], .ow 91 g60.1 s59.1, .ow 55 g60.2 s59.2.1, mpf GmultiPlace.enc (Value.int .i64) b36 s59.2.2.1, .bx b37 80 [.int .i64 (w64 (2 * p0.Symbols)), .int .i64 0, g60.1, g60.2, .map (some b36)], .bx b2 28 [.int .i64 0, .int .i64 0, .slice none 0 0], .bx b7 33 [.int .i64 p0.Tapes, .int .i64 p0.Symbols, .int .i64 p0.States, v0_0]]) (([] : (List GRule)), s40.2.1, s40.2.2, 0) ((.slice none 0 0 : Value), g41) ⟨rfl, rfl, rfl, rfl, trivial⟩ [1, 2, 4, 5, 6, 0, 8, 9, 10, 3, 7] rfl rfl (fun s59 g60 => ?_) (fun s59 g60 => ?_)
        · obtain ⟨g60_0, g60_1⟩ := g60
          unfold F_impl_OneTapeMachine_L2
          refine J_seq ?_
          refine J_seq ?_
          refine J_region ?_
          refine JL_q (wants_none rfl) rfl (ex_move rfl) ?_
          refine JL_q (wants_none rfl) rfl (ex_move rfl) ?_
          refine JL_q (wants_none rfl) rfl (ex_nilCheck rfl) ?_
          refine JL_q (wants_none rfl) rfl (ex_fieldAddr fi_80_1 rfl rfl) ?_
          refine JL_q (wants_none rfl) rfl (ex_load_bx 8 ti_77 rfl rfl rfl) ?_
          refine JL_q (wants_none rfl) rfl (ex_len_ow 6 Try.underlying77 rfl rfl) ?_
          refine JL_q (wants_none rfl) rfl (ex_lss rfl rfl) ?_
          refine JL_nil ?_
          refine N_then ?_
          refine J_if rfl (fun h61 => ?_) (fun h61 => ?_)
          · refine J_skip ?_
            refine N_then ?_
            refine J_seq ?_
            refine J_block ?_
            refine J_seq ?_
            refine J_seq ?_
            refine J_region ?_
            refine JL_q (wants_none rfl) rfl (ex_move rfl) ?_
            refine JL_q (wants_none rfl) rfl (ex_move rfl) ?_
            refine JL_nil ?_
            refine N_then ?_
            refine J_loop' (S := (List GRule) × (List GmultiPlace) × List (GmultiPlace × Int) × Int) (G := Value × Value) (F_impl_OneTapeMachine_L3 p0 s15 s59) (fun s62 g63 => [(0, .int .i64 (w64 (2 * p0.Symbols))), (2, .func (.func 38) #[.pointer (some ⟨b27, 0, none⟩)] #[]), (8, .pointer (some ⟨b37, 0, none⟩)), (9, .int .i64 s59.2.2.2), (30, .int .i64 (w64 (2 * p0.Symbols))), (31, .int .i64 s62.2.2.2)]) (fun s62 g63 => [.fz w29 C34, .fz w9 C12, .rd v0_0 p0.Rules, mpf Greading.enc (Value.int .i64) b14 s15.1, .bx b27 85 [.int .i64 p0.Tapes, .int .i64 p0.Symbols, .int .i64 p0.States, v0_0, .map (some b14)], .ow 91 g63.1 s62.1, .ow 55 g63.2 s62.2.1, mpf GmultiPlace.enc (Value.int .i64) b36 s62.2.2.1, .bx b37 80 [.int .i64 (w64 (2 * p0.Symbols)), .int .i64 0, g63.1, g63.2, .map (some b36)], .bx b2 28 [.int .i64 0, .int .i64 0, .slice none 0 0], .bx b7 33 [.int .i64 p0.Tapes, .int .i64 p0.Symbols, .int .i64 p0.States, v0_0]]) (s59.1, s59.2.1, s59.2.2.1, 0) (g60_0, g60_1) ⟨rfl, rfl, rfl, rfl, rfl, rfl, trivial⟩ [0, 1, 2, 3, 4, 5, 6, 7, 8, 9, 10] rfl rfl (fun s62 g63 => ?_) (fun s62 g63 => ?_)
            · obtain ⟨g63_0, g63_1⟩ := g63
              unfold F_impl_OneTapeMachine_L3
              refine J_seq ?_
              refine J_region ?_
              refine JL_q (wants_none rfl) rfl (ex_lss rfl rfl) ?_
              refine JL_nil ?_
              refine N_then ?_
              refine J_seq ?_
              refine J_if rfl (fun h64 => ?_) (fun h64 => ?_)
              · refine J_skip ?_
                refine N_then ?_
                refine J_seq ?_
                refine J_block ?_
                refine J_seq ?_
                refine J_region ?_
                refine JL_q (wants_none rfl) rfl (ex_move rfl) ?_
                refine JL_q (wants_none rfl) rfl (ex_assign rfl) ?_
                refine JL_nil ?_
                refine N_then ?_
                refine J_seq ?_
                refine J_region ?_
                refine JL_bnd fun r65 hr66 => ?_
                refine JL_call (wants_none rfl) rfl Try.call52 rfl (Ca_of0 fun w hh => c_impl_noRule _ w (fun _ hk => hk.elim)  _ hr66) (fun _ => ?_)
                refine JL_st (wants_none rfl) rfl (st_alloc zi_91 rfl) (fun b67 => ?_)
                refine JL_sk (wants_none rfl) (sk_store_bx' 0 ti_91 rfl rfl (fun w hh => (cv_aggs ⟨cv_int, cv_int, cv_int, trivial⟩)) rfl rfl rfl rfl) ?_
                refine JL_nil ?_
                refine N_then ?_
                refine J_seq ?_
                refine J_cut' (S' := (List GmultiPlace) × List (GmultiPlace × Int) × Int × Int × Int) (G' := Value) (fun s68 g69 => [(0, .int .i64 (w64 (2 * p0.Symbols))), (2, .func (.func 38) #[.pointer (some ⟨b27, 0, none⟩)] #[]), (8, .pointer (some ⟨b37, 0, none⟩)), (9, .int .i64 s59.2.2.2), (11, .pointer (some ⟨b67, 0, none⟩)), (30, .int .i64 (w64 (2 * p0.Symbols))), (31, .int .i64 s62.2.2.2)]) (fun s68 g69 => [.fz w29 C34, .fz w9 C12, .rd v0_0 p0.Rules, mpf Greading.enc (Value.int .i64) b14 s15.1, .bx b27 85 [.int .i64 p0.Tapes, .int .i64 p0.Symbols, .int .i64 p0.States, v0_0, .map (some b14)], .ow 91 g63_0 s62.1, .ow 55 g69 s68.1, mpf GmultiPlace.enc (Value.int .i64) b36 s68.2.1, .bx b37 80 [.int .i64 (w64 (2 * p0.Symbols)), .int .i64 0, g63_0, g69, .map (some b36)], .bx b67 91 [.int .i64 s68.2.2.1, .int .i64 s68.2.2.2.1, .int .i64 s68.2.2.2.2], .bx b2 28 [.int .i64 0, .int .i64 0, .slice none 0 0], .bx b7 33 [.int .i64 p0.Tapes, .int .i64 p0.Symbols, .int .i64 p0.States, v0_0]]) ?_ (fun s68 g69 => ?_)
                · refine J_seq ?_
                  refine J_region ?_
                  refine JL_q (wants_none rfl) rfl (ex_move rfl) ?_
                  refine JL_q (wants_none rfl) rfl (ex_move rfl) ?_
                  refine JL_q (wants_none rfl) rfl (ex_nilCheck rfl) ?_
                  refine JL_q (wants_none rfl) rfl (ex_fieldAddr fi_80_1 rfl rfl) ?_
                  refine JL_q (wants_none rfl) rfl (ex_load_bx 9 ti_77 rfl rfl rfl) ?_
                  refine JL_q (wants_none rfl) rfl (ex_move rfl) ?_
                  refine JL_bnd fun y70 hy71 => ?_
                  refine JL_ow_open (v := g63_1) 7 rfl hy71 ?_; rintro b72 cap73 rfl
                  refine JL_q (wants_none rfl) rfl (ex_index_ow 7 Try.underlying77 ti_55 rfl rfl rfl hy71) ?_
                  refine JL_st (wants_none rfl) rfl (st_load_ow_o 7 (GmultiPlace.opens _) ti_55 rfl rfl hy71) (fun _ => ?_)
                  refine JL_q (wants_none rfl) rfl (ex_move rfl) ?_
                  refine JL_inlineb (args := [_, _]) (bs := [.pointer (some ⟨b27, 0, none⟩)]) (wants_none rfl) rfl Try.call38 rfl rfl Try.func38 rfl Try.ntmps38 rfl rfl (fun K_ hK75 => ?_)
                  refine J_inlJ (S := Int × Int × Int × Int × Int × Int × Int × Int × Int × Int × Bool) (G := Unit) (fun s76 _ => .agg #[.int .i64 s76.1, .int .i64 s76.2.1, .int .i64 s76.2.2.1, .int .i64 s76.2.2.2.1, .int .i64 s76.2.2.2.2.1, .int .i64 s76.2.2.2.2.2.1, .int .i64 s76.2.2.2.2.2.2.1, .int .i64 s76.2.2.2.2.2.2.2.1, .int .i64 s76.2.2.2.2.2.2.2.2.1, .int .i64 s76.2.2.2.2.2.2.2.2.2.1, .bool s76.2.2.2.2.2.2.2.2.2.2]) (fun s76 _ => [.fz w29 C34, .fz w9 C12, .rd v0_0 p0.Rules, mpf Greading.enc (Value.int .i64) b14 s15.1, .bx b27 85 [.int .i64 p0.Tapes, .int .i64 p0.Symbols, .int .i64 p0.States, v0_0, .map (some b14)], .ow 91 g63_0 s62.1, .ow 55 (.slice (some ⟨b72, 0, none⟩) s62.2.1.length cap73) s62.2.1, mpf GmultiPlace.enc (Value.int .i64) b36 s62.2.2.1, .bx b37 80 [.int .i64 (w64 (2 * p0.Symbols)), .int .i64 0, g63_0, (.slice (some ⟨b72, 0, none⟩) s62.2.1.length cap73), .map (some b36)], .bx b67 91 [.int .i64 r65.Write, .int .i64 r65.Move, .int .i64 r65.Next], .bx b2 28 [.int .i64 0, .int .i64 0, .slice none 0 0], .bx b7 33 [.int .i64 p0.Tapes, .int .i64 p0.Symbols, .int .i64 p0.States, v0_0]]) hK75 (fun K_ hJ78 => ?_) (fun s76 g77 => ?_)
                  · unfold F_impl_OneTapeMachine_L4
                    refine J_seq ?_
                    refine J_region ?_
                    refine JL_st (wants_none rfl) rfl (st_box' rfl (fun w hh => (cv_aggs ⟨cv_int, cv_int, cv_int, cv_int, cv_int, cv_int, cv_int, cv_int, trivial⟩))) (fun b79 => ?_)
                    refine JL_st (wants_none rfl) rfl (st_alloc zi_107 rfl) (fun b80 => ?_)
                    refine JL_nil ?_
                    refine N_then ?_
                    refine J_seq ?_
                    refine J_region ?_
                    refine JL_q (wants_none rfl) rfl (ex_load_bx_agg 1 ti_55 rfl rfl rfl rfl) ?_
                    refine JL_st (wants_none rfl) rfl (st_alloc zi_55 rfl) (fun b81 => ?_)
                    refine JL_sk (wants_none rfl) (sk_store_bx' 0 ti_55 rfl rfl (fun w hh => (cv_aggs ⟨cv_int, cv_int, cv_int, cv_int, cv_int, cv_int, cv_int, cv_int, trivial⟩)) rfl rfl rfl rfl) ?_
                    refine JL_nil ?_
                    refine N_then ?_
                    refine J_seq ?_
                    refine J_region ?_
                    refine JL_q (wants_none rfl) rfl (ex_fieldAddr fi_55_3 rfl rfl) ?_
                    refine JL_q (wants_none rfl) rfl (ex_load_bx 0 ti_2 rfl rfl rfl) ?_
                    refine JL_q (wants_none rfl) rfl (ex_sub rfl rfl) ?_
                    refine JL_q (wants_none rfl) rfl (ex_fieldAddr fi_55_3 rfl rfl) ?_
                    refine JL_sk (wants_none rfl) (sk_store_bx' 0 ti_2 rfl rfl (fun w hh => cv_int) rfl rfl rfl rfl) ?_
                    refine JL_nil ?_
                    refine N_then ?_
                    refine J_seq ?_
                    refine J_seq ?_
                    refine J_region ?_
                    refine JL_q (wants_none rfl) rfl (ex_fieldAddr fi_55_0 rfl rfl) ?_
                    refine JL_q (wants_none rfl) rfl (ex_load_bx 2 ti_2 rfl rfl rfl) ?_
                    refine JL_nil ?_
                    refine N_then ?_
                    refine J_block ?_
                    refine J_seq ?_
                    refine J_region ?_
                    refine JL_q (wants_none rfl) rfl (ex_eql rfl rfl) ?_
                    refine JL_q (wants_none rfl) rfl (ex_assign rfl) ?_
                    refine JL_nil ?_
                    refine N_then ?_
                    refine J_if rfl (fun h82 => ?_) (fun h82 => ?_)
                    · refine J_seq ?_
                      refine J_region ?_
                      refine JL_q (wants_none rfl) rfl (ex_move rfl) ?_
                      refine JL_q (wants_none rfl) rfl (ex_load_bx_agg 2 ti_55 rfl rfl rfl rfl) ?_
                      refine JL_q (wants_none rfl) rfl (ex_move rfl) ?_
                      refine JL_inline (wants_none rfl) rfl Try.call54 rfl Try.func54 rfl Try.ntmps54 rfl rfl (fun K_ hK83 => ?_)
                      refine J_inlJ (S := Int × Int × Int × Int × Int × Int × Int × Int × Int × Int × Bool) (G := Unit) (fun s84 _ => .agg #[.int .i64 s84.1, .int .i64 s84.2.1, .int .i64 s84.2.2.1, .int .i64 s84.2.2.2.1, .int .i64 s84.2.2.2.2.1, .int .i64 s84.2.2.2.2.2.1, .int .i64 s84.2.2.2.2.2.2.1, .int .i64 s84.2.2.2.2.2.2.2.1, .int .i64 s84.2.2.2.2.2.2.2.2.1, .int .i64 s84.2.2.2.2.2.2.2.2.2.1, .bool s84.2.2.2.2.2.2.2.2.2.2]) (fun s84 _ => [.fz w29 C34, .fz w9 C12, .bx b80 107 [.int .i64 0, .int .i64 0, .int .i64 0, .int .i64 0, .int .i64 0, .int .i64 0, .int .i64 0, .int .i64 0, .int .i64 0, .int .i64 0, .bool false], .bx b2 28 [.int .i64 0, .int .i64 0, .slice none 0 0], .rd v0_0 p0.Rules, mpf Greading.enc (Value.int .i64) b14 s15.1, .bx b27 85 [.int .i64 p0.Tapes, .int .i64 p0.Symbols, .int .i64 p0.States, v0_0, .map (some b14)], .bx b7 33 [.int .i64 p0.Tapes, .int .i64 p0.Symbols, .int .i64 p0.States, v0_0], .ow 91 g63_0 s62.1, .ow 55 (.slice (some ⟨b72, 0, none⟩) s62.2.1.length cap73) s62.2.1, mpf GmultiPlace.enc (Value.int .i64) b36 s62.2.2.1, .bx b37 80 [.int .i64 (w64 (2 * p0.Symbols)), .int .i64 0, g63_0, (.slice (some ⟨b72, 0, none⟩) s62.2.1.length cap73), .map (some b36)], .bx b67 91 [.int .i64 r65.Write, .int .i64 r65.Move, .int .i64 r65.Next]]) hK83 (fun K_ hJ86 => ?_) (fun s84 g85 => ?_)
                      · unfold F_impl_OneTapeMachine_L5
                        refine J_seq ?_
                        refine J_region ?_
                        refine JL_st (wants_none rfl) rfl (st_box' rfl (fun w hh => (cv_aggs ⟨cv_int, cv_int, cv_int, cv_int, cv_int, cv_int, cv_int, cv_int, trivial⟩))) (fun b87 => ?_)
                        refine JL_st (wants_none rfl) rfl (st_alloc zi_107 rfl) (fun b88 => ?_)
                        refine JL_nil ?_
                        refine N_then ?_
                        refine J_seq ?_
                        refine J_region ?_
                        refine JL_q (wants_none rfl) rfl (ex_load_bx_agg 1 ti_55 rfl rfl rfl rfl) ?_
                        refine JL_st (wants_none rfl) rfl (st_alloc zi_55 rfl) (fun b89 => ?_)
                        refine JL_sk (wants_none rfl) (sk_store_bx' 0 ti_55 rfl rfl (fun w hh => (cv_aggs ⟨cv_int, cv_int, cv_int, cv_int, cv_int, cv_int, cv_int, cv_int, trivial⟩)) rfl rfl rfl rfl) ?_
                        refine JL_nil ?_
                        refine N_then ?_
                        refine J_seq ?_
                        refine J_draw [0] (by kernel_rfl) ?_
                        refine JP_take (i := 0) [1, 2, 3, 4, 5, 6, 7, 8, 9, 10, 11, 12, 13, 14, 15, 16, 17] [0] rfl (by kernel_rfl) (by kernel_rfl) (by kernel_rfl) rfl rfl (wants_none rfl) rfl (ex_fieldAddr fi_55_2 rfl rfl) ?_
                        refine JP_take (i := 1) [1, 2, 3, 4, 5, 6, 7, 8, 9, 10, 11, 12, 13, 14, 15, 16, 17] [0] rfl (by kernel_rfl) (by kernel_rfl) (by kernel_rfl) rfl rfl (wants_none rfl) rfl (ex_load_bx 1 ti_2 rfl rfl rfl) ?_
                        refine JP_take (i := 2) [1, 2, 3, 4, 5, 6, 7, 8, 9, 10, 11, 12, 13, 14, 15, 16, 17] [0] rfl (by kernel_rfl) (by kernel_rfl) (by kernel_rfl) rfl rfl (wants_none rfl) rfl (ex_add rfl rfl) ?_
                        refine JP_take (i := 3) [1, 2, 3, 4, 5, 6, 7, 8, 9, 10, 11, 12, 13, 14, 15, 16, 17] [0] rfl (by kernel_rfl) (by kernel_rfl) (by kernel_rfl) rfl rfl (wants_none rfl) rfl (ex_move rfl) ?_
                        refine JP_take (i := 4) [1, 2, 3, 4, 5, 6, 7, 8, 9, 10, 11, 12, 13, 14, 15, 16, 17] [0] rfl (by kernel_rfl) (by kernel_rfl) (by kernel_rfl) rfl rfl (wants_none rfl) rfl (ex_nilCheck rfl) ?_
                        refine JP_take (i := 5) [1, 2, 3, 4, 5, 6, 7, 8, 9, 10, 11, 12, 13, 14, 15, 16, 17] [0] rfl (by kernel_rfl) (by kernel_rfl) (by kernel_rfl) rfl rfl (wants_none rfl) rfl (ex_fieldAddr fi_85_0 rfl rfl) ?_
                        refine JP_take (i := 6) [1, 2, 3, 4, 5, 6, 7, 8, 9, 10, 11, 12, 13, 14, 15, 16, 17] [0] rfl (by kernel_rfl) (by kernel_rfl) (by kernel_rfl) rfl rfl (wants_none rfl) rfl (ex_fieldAddr fi_33_0 rfl rfl) ?_
                        refine JP_take (i := 7) [1, 2, 3, 4, 5, 6, 7, 8, 9, 10, 11, 12, 13, 14, 15, 16, 17] [0] rfl (by kernel_rfl) (by kernel_rfl) (by kernel_rfl) rfl rfl (wants_none rfl) rfl (ex_load_bx 10 ti_2 rfl rfl rfl) ?_
                        refine JP_bnd fun u90 hu91 => ?_
                        refine JP_take (i := 8) [1, 2, 3, 4, 5, 6, 7, 8, 9, 10, 11, 12, 13, 14, 15, 16, 17] [0] rfl (by kernel_rfl) (by kernel_rfl) (by kernel_rfl) rfl rfl (wants_none rfl) rfl (ex_rem rfl rfl (nz_ne hu91)) ?_
                        refine JP_take (i := 9) [1, 2, 3, 4, 5, 6, 7, 8, 9, 10, 11, 12, 13, 14, 15, 16, 17] [0] rfl (by kernel_rfl) (by kernel_rfl) (by kernel_rfl) rfl rfl (wants_none rfl) rfl (ex_fieldAddr fi_55_2 rfl rfl) ?_
                        refine JP_go [1, 2, 3, 4, 5, 6, 7, 8, 9, 10, 11, 12, 13, 14, 15, 16, 17] [0] rfl rfl rfl (fun w93 h1_94 hp92 => ?_)
                        refine JD_one (i := 10) (by kernel_rfl) ?_
                        refine JO_sk rfl (wants_none rfl) (sk_store_bx' 0 ti_2 rfl rfl (fun w hh => cv_int) rfl rfl rfl rfl) (sub_bx 0 rfl) ?_
                        refine JD_done (by kernel_rfl) ?_
                        refine N_then ?_
                        refine J_seq ?_
                        refine J_seq ?_
                        refine J_cut' (S' := Bool) (G' := Unit) (fun s95 _ => [(0, .pointer (some ⟨b27, 0, none⟩)), (2, .int .i64 s62.2.2.2), (4, .pointer (some ⟨b87, 0, none⟩)), (6, .pointer (some ⟨b88, 0, none⟩)), (7, .pointer (some ⟨b89, 0, none⟩)), (38, .bool s95)]) (fun s95 _ => [.fz w29 C34, .fz w9 C12, .rd v0_0 p0.Rules, mpf Greading.enc (Value.int .i64) b14 s15.1, .bx b27 85 [.int .i64 p0.Tapes, .int .i64 p0.Symbols, .int .i64 p0.States, v0_0, .map (some b14)], .bx b87 55 [.int .i64 y70.kind, .int .i64 y70.at_, .int .i64 y70.tape, .int .i64 y70.count, .int .i64 y70.found_0, .int .i64 y70.found_1, .int .i64 y70.found_2, .int .i64 y70.done], .bx b88 107 [.int .i64 0, .int .i64 0, .int .i64 0, .int .i64 0, .int .i64 0, .int .i64 0, .int .i64 0, .int .i64 0, .int .i64 0, .int .i64 0, .bool false], .bx b89 55 [.int .i64 y70.kind, .int .i64 y70.at_, .int .i64 (Int.tmod (w64 (y70.tape + 1)) p0.Tapes), .int .i64 y70.count, .int .i64 y70.found_0, .int .i64 y70.found_1, .int .i64 y70.found_2, .int .i64 y70.done], .bx b2 28 [.int .i64 0, .int .i64 0, .slice none 0 0], .bx b7 33 [.int .i64 p0.Tapes, .int .i64 p0.Symbols, .int .i64 p0.States, v0_0], .ow 91 g63_0 s62.1, .ow 55 (.slice (some ⟨b72, 0, none⟩) s62.2.1.length cap73) s62.2.1, mpf GmultiPlace.enc (Value.int .i64) b36 s62.2.2.1, .bx b37 80 [.int .i64 (w64 (2 * p0.Symbols)), .int .i64 0, g63_0, (.slice (some ⟨b72, 0, none⟩) s62.2.1.length cap73), .map (some b36)], .bx b67 91 [.int .i64 r65.Write, .int .i64 r65.Move, .int .i64 r65.Next], .bx b80 107 [.int .i64 0, .int .i64 0, .int .i64 0, .int .i64 0, .int .i64 0, .int .i64 0, .int .i64 0, .int .i64 0, .int .i64 0, .int .i64 0, .bool false]]) ?_ (fun s95 g96 => ?_)
                        · refine J_region ?_
                          refine JL_q (wants_none rfl) rfl (ex_move rfl) ?_
                          refine JL_q (wants_none rfl) rfl (ex_move rfl) ?_
                          refine JL_q (wants_none rfl) rfl (ex_nilCheck rfl) ?_
                          refine JL_q (wants_none rfl) rfl (ex_fieldAddr fi_85_0 rfl rfl) ?_
                          refine JL_q (wants_none rfl) rfl (ex_fieldAddr fi_33_1 rfl rfl) ?_
                          refine JL_q (wants_none rfl) rfl (ex_load_bx 11 ti_2 rfl rfl rfl) ?_
                          refine JL_q (wants_none rfl) rfl (ex_geq rfl rfl) ?_
                          refine JL_q (wants_none rfl) rfl (ex_move rfl) ?_
                          refine JL_cond (fun h97 => ?_) (fun h97 => ?_)
                          · refine JL_q (wants_some rfl rfl rfl h97) rfl (ex_fieldAddr fi_55_2 rfl rfl) ?_
                            refine JL_q (wants_some rfl rfl rfl h97) rfl (ex_load_bx 2 ti_2 rfl rfl rfl) ?_
                            refine JL_q (wants_some rfl rfl rfl h97) rfl (ex_fieldAddr fi_55_4 rfl rfl) ?_
                            refine JL_bnd fun y98 hy99 => ?_
                            refine JL_q (wants_some rfl rfl rfl h97) rfl (ex_index_bx (os := ([y70.found_0, y70.found_1, y70.found_2] : List Int)) Try.underlying53 ti_2 rfl rfl rfl hy99) ?_
                            refine JL_q (wants_some rfl rfl rfl h97) rfl (ex_load_bi (off := 0 + 4) [y70.found_0, y70.found_1, y70.found_2] 2 ti_2 rfl rfl rfl hy99) ?_
                            refine JL_q (wants_some rfl rfl rfl h97) rfl (ex_eql rfl rfl) ?_
                            refine JL_q (wants_none rfl) rfl (ex_pick_true rfl h97 rfl) ?_
                            refine JL_nil ?_
                            exact N_meet' () ⟨rfl, rfl, rfl, rfl, rfl, rfl, trivial⟩ [7, 8, 9, 10, 11, 2, 1, 0, 16, 17, 12, 13, 14, 15, 6, 4] rfl rfl
                          · refine JL_passed rfl rfl rfl h97 ?_
                            refine JL_passed rfl rfl rfl h97 ?_
                            refine JL_passed rfl rfl rfl h97 ?_
                            refine JL_passed rfl rfl rfl h97 ?_
                            refine JL_passed rfl rfl rfl h97 ?_
                            refine JL_passed rfl rfl rfl h97 ?_
                            refine JL_q (wants_none rfl) rfl (ex_pick_false rfl h97 rfl) ?_
                            refine JL_nil ?_
                            exact N_meet' () ⟨rfl, rfl, rfl, rfl, rfl, rfl, trivial⟩ [7, 8, 9, 10, 11, 2, 1, 0, 16, 17, 12, 13, 14, 15, 6, 4] rfl rfl
                        · refine N_then ?_
                          refine J_if rfl (fun h100 => ?_) (fun h100 => ?_)
                          · refine J_seq ?_
                            refine J_draw [7] (by kernel_rfl) ?_
                            refine JP_take (i := 0) [0, 1, 2, 3, 4, 5, 6, 8, 9, 10, 11, 12, 13, 14, 15] [7] rfl (by kernel_rfl) (by kernel_rfl) (by kernel_rfl) rfl rfl (wants_none rfl) rfl (ex_fieldAddr fi_55_2 rfl rfl) ?_
                            refine JP_take (i := 1) [0, 1, 2, 3, 4, 5, 6, 8, 9, 10, 11, 12, 13, 14, 15] [7] rfl (by kernel_rfl) (by kernel_rfl) (by kernel_rfl) rfl rfl (wants_none rfl) rfl (ex_load_bx 5 ti_2 rfl rfl rfl) ?_
                            refine JP_take (i := 2) [0, 1, 2, 3, 4, 5, 6, 8, 9, 10, 11, 12, 13, 14, 15] [7] rfl (by kernel_rfl) (by kernel_rfl) (by kernel_rfl) rfl rfl (wants_none rfl) rfl (ex_move rfl) ?_
                            refine JP_take (i := 3) [0, 1, 2, 3, 4, 5, 6, 8, 9, 10, 11, 12, 13, 14, 15] [7] rfl (by kernel_rfl) (by kernel_rfl) (by kernel_rfl) rfl rfl (wants_none rfl) rfl (ex_move rfl) ?_
                            refine JP_take (i := 4) [0, 1, 2, 3, 4, 5, 6, 8, 9, 10, 11, 12, 13, 14, 15] [7] rfl (by kernel_rfl) (by kernel_rfl) (by kernel_rfl) rfl rfl (wants_none rfl) rfl (ex_nilCheck rfl) ?_
                            refine JP_take (i := 5) [0, 1, 2, 3, 4, 5, 6, 8, 9, 10, 11, 12, 13, 14, 15] [7] rfl (by kernel_rfl) (by kernel_rfl) (by kernel_rfl) rfl rfl (wants_none rfl) rfl (ex_fieldAddr fi_85_0 rfl rfl) ?_
                            refine JP_take (i := 6) [0, 1, 2, 3, 4, 5, 6, 8, 9, 10, 11, 12, 13, 14, 15] [7] rfl (by kernel_rfl) (by kernel_rfl) (by kernel_rfl) rfl rfl (wants_none rfl) rfl (ex_fieldAddr fi_33_1 rfl rfl) ?_
                            refine JP_take (i := 7) [0, 1, 2, 3, 4, 5, 6, 8, 9, 10, 11, 12, 13, 14, 15] [7] rfl (by kernel_rfl) (by kernel_rfl) (by kernel_rfl) rfl rfl (wants_none rfl) rfl (ex_load_bx 4 ti_2 rfl rfl rfl) ?_
                            refine JP_take (i := 8) [0, 1, 2, 3, 4, 5, 6, 8, 9, 10, 11, 12, 13, 14, 15] [7] rfl (by kernel_rfl) (by kernel_rfl) (by kernel_rfl) rfl rfl (wants_none rfl) rfl (ex_sub rfl rfl) ?_
                            refine JP_take (i := 9) [0, 1, 2, 3, 4, 5, 6, 8, 9, 10, 11, 12, 13, 14, 15] [7] rfl (by kernel_rfl) (by kernel_rfl) (by kernel_rfl) rfl rfl (wants_none rfl) rfl (ex_add rfl rfl) ?_
                            refine JP_take (i := 10) [0, 1, 2, 3, 4, 5, 6, 8, 9, 10, 11, 12, 13, 14, 15] [7] rfl (by kernel_rfl) (by kernel_rfl) (by kernel_rfl) rfl rfl (wants_none rfl) rfl (ex_fieldAddr fi_55_4 rfl rfl) ?_
                            refine JP_bnd fun y101 hy102 => ?_
                            refine JP_take (i := 11) [0, 1, 2, 3, 4, 5, 6, 8, 9, 10, 11, 12, 13, 14, 15] [7] rfl (by kernel_rfl) (by kernel_rfl) (by kernel_rfl) rfl rfl (wants_none rfl) rfl (ex_index_bx (os := ([y70.found_0, y70.found_1, y70.found_2] : List Int)) Try.underlying53 ti_2 rfl rfl rfl hy102) ?_
                            refine JP_go [0, 1, 2, 3, 4, 5, 6, 8, 9, 10, 11, 12, 13, 14, 15] [7] rfl rfl rfl (fun w104 h1_105 hp103 => ?_)
                            refine JD_one (i := 12) (by kernel_rfl) ?_
                            refine JO_sk rfl (wants_none rfl) (sk_store_bi (off := 0 + 4) [y70.found_0, y70.found_1, y70.found_2] 7 ti_2 rfl rfl rfl rfl hy102 rfl) (sub_bx 0 rfl) ?_
                            refine JD_done (by kernel_rfl) ?_
                            refine N_then ?_
                            refine J_seq ?_
                            refine J_region ?_
                            refine JL_q (wants_none rfl) rfl (ex_fieldAddr fi_55_1 rfl rfl) ?_
                            refine JL_q (wants_none rfl) rfl (ex_load_bx 5 ti_2 rfl rfl rfl) ?_
                            refine JL_q (wants_none rfl) rfl (ex_build si_104 rfl (.cons fi_104_0 rfl rfl .nil) (fun w hh => ⟨cv_int, trivial⟩)) ?_
                            refine JL_st (wants_none rfl) rfl (st_alloc zi_104 rfl) (fun b106 => ?_)
                            refine JL_sk (wants_none rfl) (sk_store_bx' 0 ti_104 rfl rfl (fun w hh => (cv_aggs ⟨cv_int, cv_int, cv_int, cv_int, trivial⟩)) rfl rfl rfl rfl) ?_
                            refine JL_q (wants_none rfl) rfl (ex_assign rfl) ?_
                            refine JL_nil ?_
                            refine N_then ?_
                            refine J_seq ?_
                            refine J_seq ?_
                            refine J_region ?_
                            refine JL_q (wants_none rfl) rfl (ex_move rfl) ?_
                            refine JL_q (wants_none rfl) rfl (ex_nilCheck rfl) ?_
                            refine JL_q (wants_none rfl) rfl (ex_fieldAddr fi_85_0 rfl rfl) ?_
                            refine JL_q (wants_none rfl) rfl (ex_fieldAddr fi_33_0 rfl rfl) ?_
                            refine JL_q (wants_none rfl) rfl (ex_load_bx 5 ti_2 rfl rfl rfl) ?_
                            refine JL_q (wants_none rfl) rfl (ex_move rfl) ?_
                            refine JL_nil ?_
                            refine N_then ?_
                            refine J_loop' (S := Int × Int × Int × Bool × Int) (G := Unit) (F_impl_OneTapeMachine_L6 p0 s62 y70) (fun s107 _ => [(0, .pointer (some ⟨b27, 0, none⟩)), (2, .int .i64 s62.2.2.2), (4, .pointer (some ⟨b87, 0, none⟩)), (6, .pointer (some ⟨b88, 0, none⟩)), (7, .pointer (some ⟨b89, 0, none⟩)), (8, .pointer (some ⟨b106, 0, none⟩)), (9, .bool s107.2.2.2.1), (58, .int .i64 p0.Tapes), (59, .int .i64 s107.2.2.2.2)]) (fun s107 _ => [.fz w29 C34, .fz w9 C12, .rd v0_0 p0.Rules, mpf Greading.enc (Value.int .i64) b14 s15.1, .bx b27 85 [.int .i64 p0.Tapes, .int .i64 p0.Symbols, .int .i64 p0.States, v0_0, .map (some b14)], .bx b87 55 [.int .i64 y70.kind, .int .i64 y70.at_, .int .i64 y70.tape, .int .i64 y70.count, .int .i64 y70.found_0, .int .i64 y70.found_1, .int .i64 y70.found_2, .int .i64 y70.done], .bx b88 107 [.int .i64 0, .int .i64 0, .int .i64 0, .int .i64 0, .int .i64 0, .int .i64 0, .int .i64 0, .int .i64 0, .int .i64 0, .int .i64 0, .bool false], .bx b89 55 [.int .i64 y70.kind, .int .i64 y70.at_, .int .i64 (Int.tmod (w64 (y70.tape + 1)) p0.Tapes), .int .i64 y70.count, .int .i64 (if y70.tape = ((0 : Nat) : Int) then (w64 ((w64 (s62.2.2.2 - p0.Symbols)) + 1)) else y70.found_0), .int .i64 (if y70.tape = ((1 : Nat) : Int) then (w64 ((w64 (s62.2.2.2 - p0.Symbols)) + 1)) else y70.found_1), .int .i64 (if y70.tape = ((2 : Nat) : Int) then (w64 ((w64 (s62.2.2.2 - p0.Symbols)) + 1)) else y70.found_2), .int .i64 y70.done], .bx b106 104 [.int .i64 y70.at_, .int .i64 s107.1, .int .i64 s107.2.1, .int .i64 s107.2.2.1], .bx b2 28 [.int .i64 0, .int .i64 0, .slice none 0 0], .bx b7 33 [.int .i64 p0.Tapes, .int .i64 p0.Symbols, .int .i64 p0.States, v0_0], .ow 91 g63_0 s62.1, .ow 55 (.slice (some ⟨b72, 0, none⟩) s62.2.1.length cap73) s62.2.1, mpf GmultiPlace.enc (Value.int .i64) b36 s62.2.2.1, .bx b37 80 [.int .i64 (w64 (2 * p0.Symbols)), .int .i64 0, g63_0, (.slice (some ⟨b72, 0, none⟩) s62.2.1.length cap73), .map (some b36)], .bx b67 91 [.int .i64 r65.Write, .int .i64 r65.Move, .int .i64 r65.Next], .bx b80 107 [.int .i64 0, .int .i64 0, .int .i64 0, .int .i64 0, .int .i64 0, .int .i64 0, .int .i64 0, .int .i64 0, .int .i64 0, .int .i64 0, .bool false]]) (0, 0, 0, false, 0) () ⟨rfl, rfl, rfl, rfl, rfl, rfl, rfl, rfl, rfl, trivial⟩ [1, 2, 3, 4, 5, 6, 7, 8, 0, 9, 10, 11, 12, 13, 14, 15, 16] rfl rfl (fun s107 g108 => ?_) (fun s107 g108 => ?_)
                            · unfold F_impl_OneTapeMachine_L6
                              refine J_seq ?_
                              refine J_region ?_
                              refine JL_q (wants_none rfl) rfl (ex_lss rfl rfl) ?_
                              refine JL_nil ?_
                              refine N_then ?_
                              refine J_seq ?_
                              refine J_if rfl (fun h109 => ?_) (fun h109 => ?_)
                              · refine J_skip ?_
                                refine N_then ?_
                                refine J_seq ?_
                                refine J_block ?_
                                refine J_seq ?_
                                refine J_region ?_
                                refine JL_q (wants_none rfl) rfl (ex_move rfl) ?_
                                refine JL_q (wants_none rfl) rfl (ex_assign rfl) ?_
                                refine JL_nil ?_
                                refine N_then ?_
                                refine J_seq ?_
                                refine J_region ?_
                                refine JL_q (wants_none rfl) rfl (ex_move rfl) ?_
                                refine JL_q (wants_none rfl) rfl (ex_move rfl) ?_
                                refine JL_cond (fun h110 => ?_) (fun h110 => ?_)
                                · refine JL_passed rfl rfl rfl h110 ?_
                                  refine JL_passed rfl rfl rfl h110 ?_
                                  refine JL_passed rfl rfl rfl h110 ?_
                                  refine JL_passed rfl rfl rfl h110 ?_
                                  refine JL_passed rfl rfl rfl h110 ?_
                                  refine JL_q (wants_none rfl) rfl (ex_pick_true rfl h110 rfl) ?_
                                  refine JL_q (wants_none rfl) rfl (ex_assign rfl) ?_
                                  refine JL_nil ?_
                                  refine N_then ?_
                                  refine J_region ?_
                                  refine JL_q (wants_none rfl) rfl (ex_move rfl) ?_
                                  refine JL_q (wants_none rfl) rfl (ex_move rfl) ?_
                                  refine JL_q (wants_none rfl) rfl (ex_fieldAddr fi_55_4 rfl rfl) ?_
                                  refine JL_bnd fun y111 hy112 => ?_
                                  refine JL_q (wants_none rfl) rfl (ex_index_bx (os := ([(if y70.tape = ((0 : Nat) : Int) then (w64 ((w64 (s62.2.2.2 - p0.Symbols)) + 1)) else y70.found_0), (if y70.tape = ((1 : Nat) : Int) then (w64 ((w64 (s62.2.2.2 - p0.Symbols)) + 1)) else y70.found_1), (if y70.tape = ((2 : Nat) : Int) then (w64 ((w64 (s62.2.2.2 - p0.Symbols)) + 1)) else y70.found_2)] : List Int)) Try.underlying53 ti_2 rfl rfl rfl hy112) ?_
                                  refine JL_q (wants_none rfl) rfl (ex_load_bi (off := 0 + 4) [(if y70.tape = ((0 : Nat) : Int) then (w64 ((w64 (s62.2.2.2 - p0.Symbols)) + 1)) else y70.found_0), (if y70.tape = ((1 : Nat) : Int) then (w64 ((w64 (s62.2.2.2 - p0.Symbols)) + 1)) else y70.found_1), (if y70.tape = ((2 : Nat) : Int) then (w64 ((w64 (s62.2.2.2 - p0.Symbols)) + 1)) else y70.found_2)] 7 ti_2 rfl rfl rfl hy112) ?_
                                  refine JL_q (wants_none rfl) rfl (ex_sub rfl rfl) ?_
                                  refine JL_q (wants_none rfl) rfl (ex_max rfl rfl) ?_
                                  refine JL_q (wants_none rfl) rfl (ex_fieldAddr fi_104_1 rfl rfl) ?_
                                  refine JL_bnd fun y113 hy114 => ?_
                                  refine JL_q (wants_none rfl) rfl (ex_index_bx (os := ([s107.1, s107.2.1, s107.2.2.1] : List Int)) Try.underlying53 ti_2 rfl rfl rfl hy114) ?_
                                  refine JL_sk (wants_none rfl) (sk_store_bi (off := 0 + 1) [s107.1, s107.2.1, s107.2.2.1] 8 ti_2 rfl rfl rfl rfl hy114 rfl) ?_
                                  refine JL_nil ?_
                                  refine N_block ?_
                                  refine N_then ?_
                                  refine J_region ?_
                                  refine JL_q (wants_none rfl) rfl (ex_add rfl rfl) ?_
                                  refine JL_q (wants_none rfl) rfl (ex_move rfl) ?_
                                  refine JL_nil ?_
                                  exact N_next' () ⟨rfl, rfl, rfl, rfl, rfl, rfl, rfl, rfl, rfl, trivial⟩ [0, 1, 2, 3, 4, 5, 6, 7, 8, 9, 10, 11, 12, 13, 14, 15, 16] rfl rfl
                                · refine JL_q (wants_some rfl rfl rfl h110) rfl (ex_move rfl) ?_
                                  refine JL_q (wants_some rfl rfl rfl h110) rfl (ex_fieldAddr fi_55_4 rfl rfl) ?_
                                  refine JL_bnd fun y115 hy116 => ?_
                                  refine JL_q (wants_some rfl rfl rfl h110) rfl (ex_index_bx (os := ([(if y70.tape = ((0 : Nat) : Int) then (w64 ((w64 (s62.2.2.2 - p0.Symbols)) + 1)) else y70.found_0), (if y70.tape = ((1 : Nat) : Int) then (w64 ((w64 (s62.2.2.2 - p0.Symbols)) + 1)) else y70.found_1), (if y70.tape = ((2 : Nat) : Int) then (w64 ((w64 (s62.2.2.2 - p0.Symbols)) + 1)) else y70.found_2)] : List Int)) Try.underlying53 ti_2 rfl rfl rfl hy116) ?_
                                  refine JL_q (wants_some rfl rfl rfl h110) rfl (ex_load_bi (off := 0 + 4) [(if y70.tape = ((0 : Nat) : Int) then (w64 ((w64 (s62.2.2.2 - p0.Symbols)) + 1)) else y70.found_0), (if y70.tape = ((1 : Nat) : Int) then (w64 ((w64 (s62.2.2.2 - p0.Symbols)) + 1)) else y70.found_1), (if y70.tape = ((2 : Nat) : Int) then (w64 ((w64 (s62.2.2.2 - p0.Symbols)) + 1)) else y70.found_2)] 7 ti_2 rfl rfl rfl hy116) ?_
                                  refine JL_q (wants_some rfl rfl rfl h110) rfl (ex_eql rfl rfl) ?_
                                  refine JL_q (wants_none rfl) rfl (ex_pick_false rfl h110 rfl) ?_
                                  refine JL_q (wants_none rfl) rfl (ex_assign rfl) ?_
                                  refine JL_nil ?_
                                  refine N_then ?_
                                  refine J_region ?_
                                  refine JL_q (wants_none rfl) rfl (ex_move rfl) ?_
                                  refine JL_q (wants_none rfl) rfl (ex_move rfl) ?_
                                  refine JL_q (wants_none rfl) rfl (ex_fieldAddr fi_55_4 rfl rfl) ?_
                                  refine JL_bnd fun y117 hy118 => ?_
                                  refine JL_q (wants_none rfl) rfl (ex_index_bx (os := ([(if y70.tape = ((0 : Nat) : Int) then (w64 ((w64 (s62.2.2.2 - p0.Symbols)) + 1)) else y70.found_0), (if y70.tape = ((1 : Nat) : Int) then (w64 ((w64 (s62.2.2.2 - p0.Symbols)) + 1)) else y70.found_1), (if y70.tape = ((2 : Nat) : Int) then (w64 ((w64 (s62.2.2.2 - p0.Symbols)) + 1)) else y70.found_2)] : List Int)) Try.underlying53 ti_2 rfl rfl rfl hy118) ?_
                                  refine JL_q (wants_none rfl) rfl (ex_load_bi (off := 0 + 4) [(if y70.tape = ((0 : Nat) : Int) then (w64 ((w64 (s62.2.2.2 - p0.Symbols)) + 1)) else y70.found_0), (if y70.tape = ((1 : Nat) : Int) then (w64 ((w64 (s62.2.2.2 - p0.Symbols)) + 1)) else y70.found_1), (if y70.tape = ((2 : Nat) : Int) then (w64 ((w64 (s62.2.2.2 - p0.Symbols)) + 1)) else y70.found_2)] 7 ti_2 rfl rfl rfl hy118) ?_
                                  refine JL_q (wants_none rfl) rfl (ex_sub rfl rfl) ?_
                                  refine JL_q (wants_none rfl) rfl (ex_max rfl rfl) ?_
                                  refine JL_q (wants_none rfl) rfl (ex_fieldAddr fi_104_1 rfl rfl) ?_
                                  refine JL_bnd fun y119 hy120 => ?_
                                  refine JL_q (wants_none rfl) rfl (ex_index_bx (os := ([s107.1, s107.2.1, s107.2.2.1] : List Int)) Try.underlying53 ti_2 rfl rfl rfl hy120) ?_
                                  refine JL_sk (wants_none rfl) (sk_store_bi (off := 0 + 1) [s107.1, s107.2.1, s107.2.2.1] 8 ti_2 rfl rfl rfl rfl hy120 rfl) ?_
                                  refine JL_nil ?_
                                  refine N_block ?_
                                  refine N_then ?_
                                  refine J_region ?_
                                  refine JL_q (wants_none rfl) rfl (ex_add rfl rfl) ?_
                                  refine JL_q (wants_none rfl) rfl (ex_move rfl) ?_
                                  refine JL_nil ?_
                                  exact N_next' () ⟨rfl, rfl, rfl, rfl, rfl, rfl, rfl, rfl, rfl, trivial⟩ [0, 1, 2, 3, 4, 5, 6, 7, 8, 9, 10, 11, 12, 13, 14, 15, 16] rfl rfl
                              · refine J_exit ?_
                                refine N_then_exit ?_
                                exact N_break' () ⟨rfl, rfl, rfl, rfl, rfl, rfl, rfl, rfl, rfl, trivial⟩ [0, 1, 2, 3, 4, 5, 6, 7, 8, 9, 10, 11, 12, 13, 14, 15, 16] rfl rfl
                            · refine N_then ?_
                              refine J_seq ?_
                              refine J_draw [] (by kernel_rfl) ?_
                              refine JP_take (i := 0) [0, 1, 2, 3, 4, 5, 6, 7, 8, 9, 10, 11, 12, 13, 14, 15, 16] [] rfl (by kernel_rfl) (by kernel_rfl) (by kernel_rfl) rfl rfl (wants_none rfl) rfl (ex_move rfl) ?_
                              refine JP_take (i := 1) [0, 1, 2, 3, 4, 5, 6, 7, 8, 9, 10, 11, 12, 13, 14, 15, 16] [] rfl (by kernel_rfl) (by kernel_rfl) (by kernel_rfl) rfl rfl (wants_none rfl) rfl (ex_nilCheck rfl) ?_
                              refine JP_take (i := 2) [0, 1, 2, 3, 4, 5, 6, 7, 8, 9, 10, 11, 12, 13, 14, 15, 16] [] rfl (by kernel_rfl) (by kernel_rfl) (by kernel_rfl) rfl rfl (wants_none rfl) rfl (ex_fieldAddr fi_85_1 rfl rfl) ?_
                              refine JP_take (i := 3) [0, 1, 2, 3, 4, 5, 6, 7, 8, 9, 10, 11, 12, 13, 14, 15, 16] [] rfl (by kernel_rfl) (by kernel_rfl) (by kernel_rfl) rfl rfl (wants_none rfl) rfl (ex_load_bx 4 ti_82 rfl rfl rfl) ?_
                              refine JP_take (i := 4) [0, 1, 2, 3, 4, 5, 6, 7, 8, 9, 10, 11, 12, 13, 14, 15, 16] [] rfl (by kernel_rfl) (by kernel_rfl) (by kernel_rfl) rfl rfl (wants_none rfl) rfl (ex_load_bx_agg 8 ti_104 rfl rfl rfl rfl) ?_
                              refine JP_take (i := 5) [0, 1, 2, 3, 4, 5, 6, 7, 8, 9, 10, 11, 12, 13, 14, 15, 16] [] rfl (by kernel_rfl) (by kernel_rfl) (by kernel_rfl) rfl rfl (wants_none rfl) rfl (ex_lookup_ok (x := (⟨y70.at_, s107.1, s107.2.1, s107.2.2.1⟩ : Greading)) (z := 0) 3 key_104 Try.underlying82 zi_2 rfl rfl rfl rfl rfl) ?_
                              refine JP_take (i := 6) [0, 1, 2, 3, 4, 5, 6, 7, 8, 9, 10, 11, 12, 13, 14, 15, 16] [] rfl (by kernel_rfl) (by kernel_rfl) (by kernel_rfl) rfl rfl (wants_none rfl) rfl (ex_move rfl) ?_
                              refine JP_take (i := 7) [0, 1, 2, 3, 4, 5, 6, 7, 8, 9, 10, 11, 12, 13, 14, 15, 16] [] rfl (by kernel_rfl) (by kernel_rfl) (by kernel_rfl) rfl rfl (wants_none rfl) rfl (ex_extract rfl rfl) ?_
                              refine JP_take (i := 8) [0, 1, 2, 3, 4, 5, 6, 7, 8, 9, 10, 11, 12, 13, 14, 15, 16] [] rfl (by kernel_rfl) (by kernel_rfl) (by kernel_rfl) rfl rfl (wants_none rfl) rfl (ex_extract rfl rfl) ?_
                              refine JP_take (i := 9) [0, 1, 2, 3, 4, 5, 6, 7, 8, 9, 10, 11, 12, 13, 14, 15, 16] [] rfl (by kernel_rfl) (by kernel_rfl) (by kernel_rfl) rfl rfl (wants_none rfl) rfl (ex_assign rfl) ?_
                              refine JP_take (i := 10) [0, 1, 2, 3, 4, 5, 6, 7, 8, 9, 10, 11, 12, 13, 14, 15, 16] [] rfl (by kernel_rfl) (by kernel_rfl) (by kernel_rfl) rfl rfl (wants_none rfl) rfl (ex_assign rfl) ?_
                              refine JP_go [] [] rfl rfl rfl (fun _ _ _ => ?_)
                              refine JD_done (by kernel_rfl) ?_
                              refine N_then ?_
                              refine J_seq ?_
                              refine J_region ?_
                              refine JL_q (wants_none rfl) rfl (ex_move rfl) ?_
                              refine JL_q (wants_none rfl) rfl (ex_not rfl) ?_
                              refine JL_nil ?_
                              refine N_then ?_
                              refine J_if rfl (fun h121 => ?_) (fun h121 => ?_)
                              · refine J_seq ?_
                                refine J_seq ?_
                                refine J_region ?_
                                refine JL_q (wants_none rfl) rfl (ex_move rfl) ?_
                                refine JL_nil ?_
                                refine N_then ?_
                                refine J_if rfl (fun h122 => ?_) (fun h122 => ?_)
                                · refine J_seq ?_
                                  refine J_region ?_
                                  refine JL_q (wants_none rfl) rfl (ex_move rfl) ?_
                                  refine JL_q (wants_none rfl) rfl (ex_move rfl) ?_
                                  refine JL_q (wants_none rfl) rfl (ex_fieldAddr fi_55_2 rfl rfl) ?_
                                  refine JL_q (wants_none rfl) rfl (ex_load_bx 5 ti_2 rfl rfl rfl) ?_
                                  refine JL_inline (wants_none rfl) rfl Try.call56 rfl Try.func56 rfl Try.ntmps56 rfl rfl (fun K_ hK123 => ?_)
                                  refine J_inlJ (S := Int × Int × Int × Int × Int × Int × Int × Int × Int × Int × Bool) (G := Unit) (fun s124 _ => .agg #[.int .i64 s124.1, .int .i64 s124.2.1, .int .i64 s124.2.2.1, .int .i64 s124.2.2.2.1, .int .i64 s124.2.2.2.2.1, .int .i64 s124.2.2.2.2.2.1, .int .i64 s124.2.2.2.2.2.2.1, .int .i64 s124.2.2.2.2.2.2.2.1, .int .i64 s124.2.2.2.2.2.2.2.2.1, .int .i64 s124.2.2.2.2.2.2.2.2.2.1, .bool s124.2.2.2.2.2.2.2.2.2.2]) (fun s124 _ => [.fz w29 C34, .fz w9 C12, .bx b88 107 [.int .i64 0, .int .i64 0, .int .i64 0, .int .i64 0, .int .i64 0, .int .i64 0, .int .i64 0, .int .i64 0, .int .i64 0, .int .i64 0, .bool false], .bx b2 28 [.int .i64 0, .int .i64 0, .slice none 0 0], .rd v0_0 p0.Rules, mpf Greading.enc (Value.int .i64) b14 s15.1, .bx b27 85 [.int .i64 p0.Tapes, .int .i64 p0.Symbols, .int .i64 p0.States, v0_0, .map (some b14)], .bx b7 33 [.int .i64 p0.Tapes, .int .i64 p0.Symbols, .int .i64 p0.States, v0_0], .ow 91 g63_0 s62.1, .ow 55 (.slice (some ⟨b72, 0, none⟩) s62.2.1.length cap73) s62.2.1, mpf GmultiPlace.enc (Value.int .i64) b36 s62.2.2.1, .bx b37 80 [.int .i64 (w64 (2 * p0.Symbols)), .int .i64 0, g63_0, (.slice (some ⟨b72, 0, none⟩) s62.2.1.length cap73), .map (some b36)], .bx b67 91 [.int .i64 r65.Write, .int .i64 r65.Move, .int .i64 r65.Next], .bx b80 107 [.int .i64 0, .int .i64 0, .int .i64 0, .int .i64 0, .int .i64 0, .int .i64 0, .int .i64 0, .int .i64 0, .int .i64 0, .int .i64 0, .bool false]]) hK123 (fun K_ hJ126 => ?_) (fun s124 g125 => ?_)
                                  · unfold F_impl_OneTapeMachine_L7
                                    refine J_seq ?_
                                    refine J_region ?_
                                    refine JL_st (wants_none rfl) rfl (st_alloc zi_107 rfl) (fun b127 => ?_)
                                    refine JL_nil ?_
                                    refine N_then ?_
                                    refine J_seq ?_
                                    refine J_region ?_
                                    refine JL_q (wants_none rfl) rfl (ex_move rfl) ?_
                                    refine JL_q (wants_none rfl) rfl (ex_nilCheck rfl) ?_
                                    refine JL_q (wants_none rfl) rfl (ex_fieldAddr fi_85_0 rfl rfl) ?_
                                    refine JL_q (wants_none rfl) rfl (ex_fieldAddr fi_33_3 rfl rfl) ?_
                                    refine JL_q (wants_none rfl) rfl (ex_load_bx 5 ti_31 rfl rfl rfl) ?_
                                    refine JL_q (wants_none rfl) rfl (ex_move rfl) ?_
                                    refine JL_bnd fun y128 hy129 => ?_
                                    refine JL_st (wants_none rfl) rfl (st_index 3 Try.underlying31 ti_69 rfl rfl rfl hy129) (fun q130 => ?_)
                                    refine JL_st (wants_none rfl) rfl (st_load_pt_o 0 (GMultiRule.opens _) ti_69 rfl rfl) (fun v131 => ?_)
                                    refine JL_st (wants_none rfl) rfl (st_alloc zi_69 rfl) (fun b132 => ?_)
                                    refine JL_sk (wants_none rfl) (sk_store_bx' 0 ti_69 rfl rfl (fun w hh => (cv_aggs ⟨cv_int, (hh.cv 1 rfl), (hh.cv 2 rfl), (hh.cv 3 rfl), cv_int, trivial⟩)) rfl rfl rfl rfl) ?_
                                    refine JL_nil ?_
                                    refine N_then ?_
                                    refine J_seq ?_
                                    refine J_region ?_
                                    refine JL_q (wants_none rfl) rfl (ex_move rfl) ?_
                                    refine JL_q (wants_none rfl) rfl (ex_move rfl) ?_
                                    refine JL_bnd fun u133 hu134 => ?_
                                    refine JL_q (wants_none rfl) rfl (ex_shl rfl rfl (nneg_le hu134)) ?_
                                    refine JL_q (wants_none rfl) rfl (ex_or rfl rfl) ?_
                                    refine JL_q (wants_none rfl) rfl (ex_assign rfl) ?_
                                    refine JL_nil ?_
                                    refine N_then ?_
                                    refine J_seq ?_
                                    refine J_seq ?_
                                    refine J_region ?_
                                    refine JL_q (wants_none rfl) rfl (ex_fieldAddr fi_69_3 rfl rfl) ?_
                                    refine JL_q (wants_none rfl) rfl (ex_load_bx 0 ti_64 rfl rfl rfl) ?_
                                    refine JL_q (wants_none rfl) rfl (ex_move rfl) ?_
                                    refine JL_bnd fun y135 hy136 => ?_
                                    refine JL_st (wants_none rfl) rfl (st_index 3 Try.underlying64 ti_2 rfl rfl rfl hy136) (fun q137 => ?_)
                                    refine JL_st (wants_none rfl) rfl (st_load_pt_o 0 (opens_int _) ti_2 rfl rfl) (fun _ => ?_)
                                    refine JL_q (wants_none rfl) rfl (ex_eql rfl rfl) ?_
                                    refine JL_nil ?_
                                    refine N_then ?_
                                    refine J_if rfl (fun h139 => ?_) (fun h139 => ?_)
                                    · refine J_seq ?_
                                      refine J_cut' (S' := Int × Int × Int × Int × Int × Int × Int × Int × Int × Int) (G' := Unit) (fun s140 _ => [(8, .pointer (some ⟨b127, 0, none⟩))]) (fun s140 _ => [.fz w29 C34, .fz w9 C12, .bx b127 107 [.int .i64 s140.1, .int .i64 s140.2.1, .int .i64 s140.2.2.1, .int .i64 s140.2.2.2.1, .int .i64 s140.2.2.2.2.1, .int .i64 s140.2.2.2.2.2.1, .int .i64 s140.2.2.2.2.2.2.1, .int .i64 s140.2.2.2.2.2.2.2.1, .int .i64 s140.2.2.2.2.2.2.2.2.1, .int .i64 s140.2.2.2.2.2.2.2.2.2, .bool false], .bx b2 28 [.int .i64 0, .int .i64 0, .slice none 0 0], .rd v0_0 p0.Rules, mpf Greading.enc (Value.int .i64) b14 s15.1, .bx b27 85 [.int .i64 p0.Tapes, .int .i64 p0.Symbols, .int .i64 p0.States, v0_0, .map (some b14)], .bx b7 33 [.int .i64 p0.Tapes, .int .i64 p0.Symbols, .int .i64 p0.States, v0_0], .ow 91 g63_0 s62.1, .ow 55 (.slice (some ⟨b72, 0, none⟩) s62.2.1.length cap73) s62.2.1, mpf GmultiPlace.enc (Value.int .i64) b36 s62.2.2.1, .bx b37 80 [.int .i64 (w64 (2 * p0.Symbols)), .int .i64 0, g63_0, (.slice (some ⟨b72, 0, none⟩) s62.2.1.length cap73), .map (some b36)], .bx b67 91 [.int .i64 r65.Write, .int .i64 r65.Move, .int .i64 r65.Next], .bx b80 107 [.int .i64 0, .int .i64 0, .int .i64 0, .int .i64 0, .int .i64 0, .int .i64 0, .int .i64 0, .int .i64 0, .int .i64 0, .int .i64 0, .bool false], .bx b88 107 [.int .i64 0, .int .i64 0, .int .i64 0, .int .i64 0, .int .i64 0, .int .i64 0, .int .i64 0, .int .i64 0, .int .i64 0, .int .i64 0, .bool false]]) ?_ (fun s140 g141 => ?_)
                                      · refine J_draw [6, 10, 12, 14, 15, 18, 19, 20] (by kernel_rfl) ?_
                                        refine JP_take (i := 0) [0, 1, 2, 3, 4, 5, 7, 8, 9, 11, 13, 16, 17, 21, 22, 23] [6, 10, 12, 14, 15, 18, 19, 20] rfl (by kernel_rfl) (by kernel_rfl) (by kernel_rfl) rfl rfl (wants_none rfl) rfl (ex_fieldAddr fi_69_2 rfl rfl) ?_
                                        refine JP_take (i := 1) [0, 1, 2, 3, 4, 5, 7, 8, 9, 11, 13, 16, 17, 21, 22, 23] [6, 10, 12, 14, 15, 18, 19, 20] rfl (by kernel_rfl) (by kernel_rfl) (by kernel_rfl) rfl rfl (wants_none rfl) rfl (ex_load_bx 1 ti_64 rfl rfl rfl) ?_
                                        refine JP_take (i := 2) [0, 1, 2, 3, 4, 5, 7, 8, 9, 11, 13, 16, 17, 21, 22, 23] [6, 10, 12, 14, 15, 18, 19, 20] rfl (by kernel_rfl) (by kernel_rfl) (by kernel_rfl) rfl rfl (wants_none rfl) rfl (ex_move rfl) ?_
                                        refine JP_bnd fun y142 hy143 => ?_
                                        refine JP_sq (i := 3) [6, 10, 12, 14, 15, 18, 19, 20] rfl (by kernel_rfl) (by kernel_rfl) (by kernel_rfl) rfl (wants_none rfl) rfl (sq_index 3 Try.underlying64 ti_2 rfl rfl rfl hy143) (fun q144 => ?_)
                                        refine JP_sq (i := 4) [7, 11, 13, 15, 16, 19, 20, 21] rfl (by kernel_rfl) (by kernel_rfl) (by kernel_rfl) rfl (wants_none rfl) rfl (sq_load_pt_o 0 (opens_int _) ti_2 rfl rfl) (fun _ => ?_)
                                        refine JP_take (i := 5) [0, 1, 2, 3, 4, 5, 6, 8, 9, 10, 12, 14, 17, 18, 22, 23, 24] [7, 11, 13, 15, 16, 19, 20, 21] rfl (by kernel_rfl) (by kernel_rfl) (by kernel_rfl) rfl rfl (wants_none rfl) rfl (ex_move rfl) ?_
                                        refine JP_take (i := 6) [0, 1, 2, 3, 4, 5, 6, 8, 9, 10, 12, 14, 17, 18, 22, 23, 24] [7, 11, 13, 15, 16, 19, 20, 21] rfl (by kernel_rfl) (by kernel_rfl) (by kernel_rfl) rfl rfl (wants_none rfl) rfl (ex_nilCheck rfl) ?_
                                        refine JP_take (i := 7) [0, 1, 2, 3, 4, 5, 6, 8, 9, 10, 12, 14, 17, 18, 22, 23, 24] [7, 11, 13, 15, 16, 19, 20, 21] rfl (by kernel_rfl) (by kernel_rfl) (by kernel_rfl) rfl rfl (wants_none rfl) rfl (ex_fieldAddr fi_85_0 rfl rfl) ?_
                                        refine JP_take (i := 8) [0, 1, 2, 3, 4, 5, 6, 8, 9, 10, 12, 14, 17, 18, 22, 23, 24] [7, 11, 13, 15, 16, 19, 20, 21] rfl (by kernel_rfl) (by kernel_rfl) (by kernel_rfl) rfl rfl (wants_none rfl) rfl (ex_fieldAddr fi_33_1 rfl rfl) ?_
                                        refine JP_take (i := 9) [0, 1, 2, 3, 4, 5, 6, 8, 9, 10, 12, 14, 17, 18, 22, 23, 24] [7, 11, 13, 15, 16, 19, 20, 21] rfl (by kernel_rfl) (by kernel_rfl) (by kernel_rfl) rfl rfl (wants_none rfl) rfl (ex_load_bx 10 ti_2 rfl rfl rfl) ?_
                                        refine JP_take (i := 10) [0, 1, 2, 3, 4, 5, 6, 8, 9, 10, 12, 14, 17, 18, 22, 23, 24] [7, 11, 13, 15, 16, 19, 20, 21] rfl (by kernel_rfl) (by kernel_rfl) (by kernel_rfl) rfl rfl (wants_none rfl) rfl (ex_add rfl rfl) ?_
                                        refine JP_take (i := 11) [0, 1, 2, 3, 4, 5, 6, 8, 9, 10, 12, 14, 17, 18, 22, 23, 24] [7, 11, 13, 15, 16, 19, 20, 21] rfl (by kernel_rfl) (by kernel_rfl) (by kernel_rfl) rfl rfl (wants_none rfl) rfl (ex_move rfl) ?_
                                        refine JP_take (i := 12) [0, 1, 2, 3, 4, 5, 6, 8, 9, 10, 12, 14, 17, 18, 22, 23, 24] [7, 11, 13, 15, 16, 19, 20, 21] rfl (by kernel_rfl) (by kernel_rfl) (by kernel_rfl) rfl rfl (wants_none rfl) rfl (ex_move rfl) ?_
                                        refine JP_take (i := 13) [0, 1, 2, 3, 4, 5, 6, 8, 9, 10, 12, 14, 17, 18, 22, 23, 24] [7, 11, 13, 15, 16, 19, 20, 21] rfl (by kernel_rfl) (by kernel_rfl) (by kernel_rfl) rfl rfl (wants_none rfl) rfl (ex_move rfl) ?_
                                        refine JP_take (i := 14) [0, 1, 2, 3, 4, 5, 6, 8, 9, 10, 12, 14, 17, 18, 22, 23, 24] [7, 11, 13, 15, 16, 19, 20, 21] rfl (by kernel_rfl) (by kernel_rfl) (by kernel_rfl) rfl rfl (wants_none rfl) rfl (ex_move rfl) ?_
                                        refine JP_go [0, 1, 2, 3, 4, 5, 6, 8, 9, 10, 12, 14, 17, 18, 22, 23, 24] [7, 11, 13, 15, 16, 19, 20, 21] rfl rfl rfl (fun w147 h1_148 hp146 => ?_)
                                        refine JD_one (i := 15) (by kernel_rfl) ?_
                                        refine JO_inline h1_148 [7, 11, 13, 15, 16, 19, 20, 21] [2, 12, 14, 17, 18, 22, 23, 24] rfl rfl rfl rfl (wants_none rfl) rfl Try.call58 rfl Try.func58 rfl Try.ntmps58 rfl rfl (fun C150 K_ hK149 => ?_)
                                        refine J_seq ?_
                                        refine J_region ?_
                                        refine JL_st (wants_none rfl) rfl (st_alloc zi_55 rfl) (fun b151 => ?_)
                                        refine JL_nil ?_
                                        refine N_then ?_
                                        refine J_seq ?_
                                        refine J_seq ?_
                                        refine J_region ?_
                                        refine JL_q (wants_none rfl) rfl (ex_move rfl) ?_
                                        refine JL_q (wants_none rfl) rfl (ex_move rfl) ?_
                                        refine JL_q (wants_none rfl) rfl (ex_nilCheck rfl) ?_
                                        refine JL_q (wants_none rfl) rfl (ex_fieldAddr fi_85_0 rfl rfl) ?_
                                        refine JL_q (wants_none rfl) rfl (ex_fieldAddr fi_33_0 rfl rfl) ?_
                                        refine JL_q (wants_none rfl) rfl (ex_load_bx 14 ti_2 rfl rfl rfl) ?_
                                        refine JL_bnd fun u152 hu153 => ?_
                                        refine JL_q (wants_none rfl) rfl (ex_shl rfl rfl (nneg_le hu153)) ?_
                                        refine JL_q (wants_none rfl) rfl (ex_sub rfl rfl) ?_
                                        refine JL_q (wants_none rfl) rfl (ex_eql rfl rfl) ?_
                                        refine JL_nil ?_
                                        refine N_then ?_
                                        refine J_if rfl (fun h154 => ?_) (fun h154 => ?_)
                                        · refine J_seq ?_
                                          refine J_draw [0] (by kernel_rfl) ?_
                                          refine JP_take (i := 0) [1, 2, 3, 4, 5, 6, 7, 8, 9, 10, 11, 12, 13, 14, 15, 16, 17, 18, 19, 20, 21, 22, 23, 24, 25, 26] [0] rfl (by kernel_rfl) (by kernel_rfl) (by kernel_rfl) rfl rfl (wants_none rfl) rfl (ex_move rfl) ?_
                                          refine JP_take (i := 1) [1, 2, 3, 4, 5, 6, 7, 8, 9, 10, 11, 12, 13, 14, 15, 16, 17, 18, 19, 20, 21, 22, 23, 24, 25, 26] [0] rfl (by kernel_rfl) (by kernel_rfl) (by kernel_rfl) rfl rfl (wants_none rfl) rfl (ex_nilCheck rfl) ?_
                                          refine JP_take (i := 2) [1, 2, 3, 4, 5, 6, 7, 8, 9, 10, 11, 12, 13, 14, 15, 16, 17, 18, 19, 20, 21, 22, 23, 24, 25, 26] [0] rfl (by kernel_rfl) (by kernel_rfl) (by kernel_rfl) rfl rfl (wants_none rfl) rfl (ex_fieldAddr fi_85_0 rfl rfl) ?_
                                          refine JP_take (i := 3) [1, 2, 3, 4, 5, 6, 7, 8, 9, 10, 11, 12, 13, 14, 15, 16, 17, 18, 19, 20, 21, 22, 23, 24, 25, 26] [0] rfl (by kernel_rfl) (by kernel_rfl) (by kernel_rfl) rfl rfl (wants_none rfl) rfl (ex_fieldAddr fi_33_3 rfl rfl) ?_
                                          refine JP_take (i := 4) [1, 2, 3, 4, 5, 6, 7, 8, 9, 10, 11, 12, 13, 14, 15, 16, 17, 18, 19, 20, 21, 22, 23, 24, 25, 26] [0] rfl (by kernel_rfl) (by kernel_rfl) (by kernel_rfl) rfl rfl (wants_none rfl) rfl (ex_load_bx 13 ti_31 rfl rfl rfl) ?_
                                          refine JP_take (i := 5) [1, 2, 3, 4, 5, 6, 7, 8, 9, 10, 11, 12, 13, 14, 15, 16, 17, 18, 19, 20, 21, 22, 23, 24, 25, 26] [0] rfl (by kernel_rfl) (by kernel_rfl) (by kernel_rfl) rfl rfl (wants_none rfl) rfl (ex_move rfl) ?_
                                          refine JP_bnd fun y155 hy156 => ?_
                                          refine JP_sq (i := 6) [0] rfl (by kernel_rfl) (by kernel_rfl) (by kernel_rfl) rfl (wants_none rfl) rfl (sq_index 12 Try.underlying31 ti_69 rfl rfl rfl hy156) (fun q157 => ?_)
                                          refine JP_sq (i := 7) [1] rfl (by kernel_rfl) (by kernel_rfl) (by kernel_rfl) rfl (wants_none rfl) rfl (sq_field_pt 0 (GMultiRule.at_Next _) fi_69_4 rfl rfl rfl) (fun q158 => ?_)
                                          refine JP_sq (i := 8) [2] rfl (by kernel_rfl) (by kernel_rfl) (by kernel_rfl) rfl (wants_none rfl) rfl (sq_load_pt_o 0 (opens_int _) ti_2 rfl rfl) (fun _ => ?_)
                                          refine JP_take (i := 9) [0, 1, 3, 4, 5, 6, 7, 8, 9, 10, 11, 12, 13, 14, 15, 16, 17, 18, 19, 20, 21, 22, 23, 24, 25, 26, 27, 28] [2] rfl (by kernel_rfl) (by kernel_rfl) (by kernel_rfl) rfl rfl (wants_none rfl) rfl (ex_move rfl) ?_
                                          refine JP_take (i := 10) [0, 1, 3, 4, 5, 6, 7, 8, 9, 10, 11, 12, 13, 14, 15, 16, 17, 18, 19, 20, 21, 22, 23, 24, 25, 26, 27, 28] [2] rfl (by kernel_rfl) (by kernel_rfl) (by kernel_rfl) rfl rfl (wants_none rfl) rfl (ex_move rfl) ?_
                                          refine JP_take (i := 11) [0, 1, 3, 4, 5, 6, 7, 8, 9, 10, 11, 12, 13, 14, 15, 16, 17, 18, 19, 20, 21, 22, 23, 24, 25, 26, 27, 28] [2] rfl (by kernel_rfl) (by kernel_rfl) (by kernel_rfl) rfl rfl (wants_none rfl) rfl (ex_nilCheck rfl) ?_
                                          refine JP_take (i := 12) [0, 1, 3, 4, 5, 6, 7, 8, 9, 10, 11, 12, 13, 14, 15, 16, 17, 18, 19, 20, 21, 22, 23, 24, 25, 26, 27, 28] [2] rfl (by kernel_rfl) (by kernel_rfl) (by kernel_rfl) rfl rfl (wants_none rfl) rfl (ex_fieldAddr fi_85_0 rfl rfl) ?_
                                          refine JP_take (i := 13) [0, 1, 3, 4, 5, 6, 7, 8, 9, 10, 11, 12, 13, 14, 15, 16, 17, 18, 19, 20, 21, 22, 23, 24, 25, 26, 27, 28] [2] rfl (by kernel_rfl) (by kernel_rfl) (by kernel_rfl) rfl rfl (wants_none rfl) rfl (ex_fieldAddr fi_33_0 rfl rfl) ?_
                                          refine JP_take (i := 14) [0, 1, 3, 4, 5, 6, 7, 8, 9, 10, 11, 12, 13, 14, 15, 16, 17, 18, 19, 20, 21, 22, 23, 24, 25, 26, 27, 28] [2] rfl (by kernel_rfl) (by kernel_rfl) (by kernel_rfl) rfl rfl (wants_none rfl) rfl (ex_load_bx 15 ti_2 rfl rfl rfl) ?_
                                          refine JP_take (i := 15) [0, 1, 3, 4, 5, 6, 7, 8, 9, 10, 11, 12, 13, 14, 15, 16, 17, 18, 19, 20, 21, 22, 23, 24, 25, 26, 27, 28] [2] rfl (by kernel_rfl) (by kernel_rfl) (by kernel_rfl) rfl rfl (wants_none rfl) rfl (ex_add rfl rfl) ?_
                                          refine JP_take (i := 16) [0, 1, 3, 4, 5, 6, 7, 8, 9, 10, 11, 12, 13, 14, 15, 16, 17, 18, 19, 20, 21, 22, 23, 24, 25, 26, 27, 28] [2] rfl (by kernel_rfl) (by kernel_rfl) (by kernel_rfl) rfl rfl (wants_none rfl) rfl (ex_sub rfl rfl) ?_
                                          refine JP_go [0, 1, 3, 4, 5, 6, 7, 8, 9, 10, 11, 12, 13, 14, 15, 16, 17, 18, 19, 20, 21, 22, 23, 24, 25, 26, 27, 28] [2] rfl rfl rfl (fun w161 h1_162 hp160 => ?_)
                                          refine JD_bnd fun r163 hr164 => ?_
                                          refine JD_one (i := 17) (by kernel_rfl) ?_
                                          refine JO_call rfl (wants_none rfl) rfl Try.call55 rfl (Ca_of0 fun w hh => c_impl_leave _ w (fun _ hk => hk.elim) _ _ _ hr164) (fun _ => ?_)
                                          refine JD_one (i := 18) (by kernel_rfl) ?_
                                          refine JO_sk rfl (wants_none rfl) (sk_store_bx' 2 ti_55 rfl rfl (fun w hh => (cv_aggs ⟨cv_int, cv_int, cv_int, cv_int, cv_int, cv_int, cv_int, cv_int, trivial⟩)) rfl rfl rfl rfl) (sub_bx 0 rfl) ?_
                                          refine JD_done (by kernel_rfl) ?_
                                          refine N_then ?_
                                          refine J_ret ?_
                                          refine N_then_ret ?_
                                          refine N_inlD1 hK149 rfl (rv_cell 2 rfl rfl ti_55 rfl) 3 [6, 16, 18, 21, 22, 26, 27, 28] rfl rfl ?_
                                          refine JD_take (i := 16) hp146 rfl (by kernel_rfl) (by kernel_rfl) (by kernel_rfl) (wants_none rfl) rfl (ex_buildN [(0, .int .i64 (w64 (y142 + p0.Symbols)), [.int .i64 (w64 (y142 + p0.Symbols))]), (1, .int .i64 (-1), [.int .i64 (-1)]), (2, .agg #[.int .i64 r163.kind, .int .i64 r163.at_, .int .i64 r163.tape, .int .i64 r163.count, .int .i64 r163.found_0, .int .i64 r163.found_1, .int .i64 r163.found_2, .int .i64 r163.done], [.int .i64 r163.kind, .int .i64 r163.at_, .int .i64 r163.tape, .int .i64 r163.count, .int .i64 r163.found_0, .int .i64 r163.found_1, .int .i64 r163.found_2, .int .i64 r163.done])] si_107 rfl (.cons fi_107_0 rfl rfl rfl (.cons fi_107_1 rfl rfl rfl (.cons fi_107_2 rfl rfl rfl .nil))) (fun w hh => ⟨cv_int, cv_int, (cv_aggs ⟨cv_int, cv_int, cv_int, cv_int, cv_int, cv_int, cv_int, cv_int, trivial⟩), trivial⟩)) ?_
                                          refine JD_one (i := 17) (by kernel_rfl) ?_
                                          refine JO_sk rfl (wants_none rfl) (sk_store_bx' 11 ti_107 rfl rfl (fun w hh => (cv_aggs ⟨cv_int, cv_int, cv_int, cv_int, cv_int, cv_int, cv_int, cv_int, cv_int, cv_int, cv_bool, trivial⟩)) rfl rfl rfl rfl) (sub_bx 0 rfl) ?_
                                          refine JD_done (by kernel_rfl) ?_
                                          exact N_meet' () ⟨rfl, trivial⟩ [12, 13, 11, 21, 14, 15, 16, 22, 23, 24, 25, 26, 27, 28, 18] rfl rfl
                                        · refine J_skip ?_
                                          refine N_then ?_
                                          refine J_seq ?_
                                          refine J_region ?_
                                          refine JL_q (wants_none rfl) rfl (ex_move rfl) ?_
                                          refine JL_q (wants_none rfl) rfl (ex_move rfl) ?_
                                          refine JL_q (wants_none rfl) rfl (ex_move rfl) ?_
                                          refine JL_inline (wants_none rfl) rfl Try.call57 rfl Try.func57 rfl Try.ntmps57 rfl rfl (fun K_ hK165 => ?_)
                                          refine J_seq ?_
                                          refine J_region ?_
                                          refine JL_q (wants_none rfl) rfl (ex_assign rfl) ?_
                                          refine JL_nil ?_
                                          refine N_then ?_
                                          refine J_seq ?_
                                          refine J_draw [] (by kernel_rfl) ?_
                                          refine JP_take (i := 0) [0, 1, 2, 3, 4, 5, 6, 7, 8, 9, 10, 11, 12, 13, 14, 15, 16, 17, 18, 19, 20, 21, 22, 23, 24, 25, 26] [] rfl (by kernel_rfl) (by kernel_rfl) (by kernel_rfl) rfl rfl (wants_none rfl) rfl (ex_move rfl) ?_
                                          refine JP_take (i := 1) [0, 1, 2, 3, 4, 5, 6, 7, 8, 9, 10, 11, 12, 13, 14, 15, 16, 17, 18, 19, 20, 21, 22, 23, 24, 25, 26] [] rfl (by kernel_rfl) (by kernel_rfl) (by kernel_rfl) rfl rfl (wants_none rfl) rfl (ex_move rfl) ?_
                                          refine JP_take (i := 2) [0, 1, 2, 3, 4, 5, 6, 7, 8, 9, 10, 11, 12, 13, 14, 15, 16, 17, 18, 19, 20, 21, 22, 23, 24, 25, 26] [] rfl (by kernel_rfl) (by kernel_rfl) (by kernel_rfl) rfl rfl (wants_none rfl) rfl (ex_nilCheck rfl) ?_
                                          refine JP_take (i := 3) [0, 1, 2, 3, 4, 5, 6, 7, 8, 9, 10, 11, 12, 13, 14, 15, 16, 17, 18, 19, 20, 21, 22, 23, 24, 25, 26] [] rfl (by kernel_rfl) (by kernel_rfl) (by kernel_rfl) rfl rfl (wants_none rfl) rfl (ex_fieldAddr fi_85_0 rfl rfl) ?_
                                          refine JP_take (i := 4) [0, 1, 2, 3, 4, 5, 6, 7, 8, 9, 10, 11, 12, 13, 14, 15, 16, 17, 18, 19, 20, 21, 22, 23, 24, 25, 26] [] rfl (by kernel_rfl) (by kernel_rfl) (by kernel_rfl) rfl rfl (wants_none rfl) rfl (ex_fieldAddr fi_33_0 rfl rfl) ?_
                                          refine JP_take (i := 5) [0, 1, 2, 3, 4, 5, 6, 7, 8, 9, 10, 11, 12, 13, 14, 15, 16, 17, 18, 19, 20, 21, 22, 23, 24, 25, 26] [] rfl (by kernel_rfl) (by kernel_rfl) (by kernel_rfl) rfl rfl (wants_none rfl) rfl (ex_load_bx 14 ti_2 rfl rfl rfl) ?_
                                          refine JP_take (i := 6) [0, 1, 2, 3, 4, 5, 6, 7, 8, 9, 10, 11, 12, 13, 14, 15, 16, 17, 18, 19, 20, 21, 22, 23, 24, 25, 26] [] rfl (by kernel_rfl) (by kernel_rfl) (by kernel_rfl) rfl rfl (wants_none rfl) rfl (ex_add rfl rfl) ?_
                                          refine JP_take (i := 7) [0, 1, 2, 3, 4, 5, 6, 7, 8, 9, 10, 11, 12, 13, 14, 15, 16, 17, 18, 19, 20, 21, 22, 23, 24, 25, 26] [] rfl (by kernel_rfl) (by kernel_rfl) (by kernel_rfl) rfl rfl (wants_none rfl) rfl (ex_sub rfl rfl) ?_
                                          refine JP_take (i := 8) [0, 1, 2, 3, 4, 5, 6, 7, 8, 9, 10, 11, 12, 13, 14, 15, 16, 17, 18, 19, 20, 21, 22, 23, 24, 25, 26] [] rfl (by kernel_rfl) (by kernel_rfl) (by kernel_rfl) rfl rfl (wants_none rfl) rfl (ex_move rfl) ?_
                                          refine JP_take (i := 9) [0, 1, 2, 3, 4, 5, 6, 7, 8, 9, 10, 11, 12, 13, 14, 15, 16, 17, 18, 19, 20, 21, 22, 23, 24, 25, 26] [] rfl (by kernel_rfl) (by kernel_rfl) (by kernel_rfl) rfl rfl (wants_none rfl) rfl (ex_nilCheck rfl) ?_
                                          refine JP_take (i := 10) [0, 1, 2, 3, 4, 5, 6, 7, 8, 9, 10, 11, 12, 13, 14, 15, 16, 17, 18, 19, 20, 21, 22, 23, 24, 25, 26] [] rfl (by kernel_rfl) (by kernel_rfl) (by kernel_rfl) rfl rfl (wants_none rfl) rfl (ex_fieldAddr fi_85_0 rfl rfl) ?_
                                          refine JP_take (i := 11) [0, 1, 2, 3, 4, 5, 6, 7, 8, 9, 10, 11, 12, 13, 14, 15, 16, 17, 18, 19, 20, 21, 22, 23, 24, 25, 26] [] rfl (by kernel_rfl) (by kernel_rfl) (by kernel_rfl) rfl rfl (wants_none rfl) rfl (ex_fieldAddr fi_33_0 rfl rfl) ?_
                                          refine JP_take (i := 12) [0, 1, 2, 3, 4, 5, 6, 7, 8, 9, 10, 11, 12, 13, 14, 15, 16, 17, 18, 19, 20, 21, 22, 23, 24, 25, 26] [] rfl (by kernel_rfl) (by kernel_rfl) (by kernel_rfl) rfl rfl (wants_none rfl) rfl (ex_load_bx 14 ti_2 rfl rfl rfl) ?_
                                          refine JP_bnd fun u166 hu167 => ?_
                                          refine JP_take (i := 13) [0, 1, 2, 3, 4, 5, 6, 7, 8, 9, 10, 11, 12, 13, 14, 15, 16, 17, 18, 19, 20, 21, 22, 23, 24, 25, 26] [] rfl (by kernel_rfl) (by kernel_rfl) (by kernel_rfl) rfl rfl (wants_none rfl) rfl (ex_rem rfl rfl (nz_ne hu167)) ?_
                                          refine JP_take (i := 14) [0, 1, 2, 3, 4, 5, 6, 7, 8, 9, 10, 11, 12, 13, 14, 15, 16, 17, 18, 19, 20, 21, 22, 23, 24, 25, 26] [] rfl (by kernel_rfl) (by kernel_rfl) (by kernel_rfl) rfl rfl (wants_none rfl) rfl (ex_assign rfl) ?_
                                          refine JP_go [] [] rfl rfl rfl (fun _ _ _ => ?_)
                                          refine JD_done (by kernel_rfl) ?_
                                          refine N_then ?_
                                          refine J_ret ?_
                                          refine N_inl1 hK165 rfl (rv_tmp rfl) ?_
                                          refine JL_q (wants_none rfl) rfl (ex_move rfl) ?_
                                          refine JL_q (wants_none rfl) rfl (ex_build si_55 rfl (.cons fi_55_0 rfl rfl (.cons fi_55_1 rfl rfl (.cons fi_55_2 rfl rfl (.cons fi_55_5 rfl rfl .nil)))) (fun w hh => ⟨cv_int, cv_int, cv_int, cv_int, trivial⟩)) ?_
                                          refine JL_sk (wants_none rfl) (sk_store_bx' 0 ti_55 rfl rfl (fun w hh => (cv_aggs ⟨cv_int, cv_int, cv_int, cv_int, cv_int, cv_int, cv_int, cv_int, trivial⟩)) rfl rfl rfl rfl) ?_
                                          refine JL_nil ?_
                                          refine N_then ?_
                                          refine J_ret ?_
                                          refine N_inlD1 hK149 rfl (rv_cell 0 rfl rfl ti_55 rfl) 1 [4, 14, 16, 19, 20, 24, 25, 26] rfl rfl ?_
                                          refine JD_take (i := 16) hp146 rfl (by kernel_rfl) (by kernel_rfl) (by kernel_rfl) (wants_none rfl) rfl (ex_buildN [(0, .int .i64 (w64 (y142 + p0.Symbols)), [.int .i64 (w64 (y142 + p0.Symbols))]), (1, .int .i64 (-1), [.int .i64 (-1)]), (2, .agg #[.int .i64 3, .int .i64 ((mget s15.1 (⟨y70.at_, s107.1, s107.2.1, s107.2.2.1⟩ : Greading)).getD 0), .int .i64 (Int.tmod (w64 ((w64 (y70.tape + p0.Tapes)) - 1)) p0.Tapes), .int .i64 0, .int .i64 0, .int .i64 0, .int .i64 0, .int .i64 (ior 0 (w64 (1 * 2 ^ min (y70.tape : Int).toNat 64)))], [.int .i64 3, .int .i64 ((mget s15.1 (⟨y70.at_, s107.1, s107.2.1, s107.2.2.1⟩ : Greading)).getD 0), .int .i64 (Int.tmod (w64 ((w64 (y70.tape + p0.Tapes)) - 1)) p0.Tapes), .int .i64 0, .int .i64 0, .int .i64 0, .int .i64 0, .int .i64 (ior 0 (w64 (1 * 2 ^ min (y70.tape : Int).toNat 64)))])] si_107 rfl (.cons fi_107_0 rfl rfl rfl (.cons fi_107_1 rfl rfl rfl (.cons fi_107_2 rfl rfl rfl .nil))) (fun w hh => ⟨cv_int, cv_int, (cv_aggs ⟨cv_int, cv_int, cv_int, cv_int, cv_int, cv_int, cv_int, cv_int, trivial⟩), trivial⟩)) ?_
                                          refine JD_one (i := 17) (by kernel_rfl) ?_
                                          refine JO_sk rfl (wants_none rfl) (sk_store_bx' 9 ti_107 rfl rfl (fun w hh => (cv_aggs ⟨cv_int, cv_int, cv_int, cv_int, cv_int, cv_int, cv_int, cv_int, cv_int, cv_int, cv_bool, trivial⟩)) rfl rfl rfl rfl) (sub_bx 0 rfl) ?_
                                          refine JD_done (by kernel_rfl) ?_
                                          exact N_meet' () ⟨rfl, trivial⟩ [10, 11, 9, 19, 12, 13, 14, 20, 21, 22, 23, 24, 25, 26, 16] rfl rfl
                                      · refine N_then ?_
                                        refine J_ret ?_
                                        refine N_then_ret ?_
                                        exact N_inlJ1 hJ126 () rfl (rv_cell 2 rfl rfl ti_107 rfl) rfl [0, 1, 14, 3, 4, 5, 6, 7, 8, 9, 10, 11, 12, 13] rfl rfl
                                    · refine J_skip ?_
                                      refine N_then ?_
                                      refine J_seq ?_
                                      refine J_region ?_
                                      refine JL_q (wants_none rfl) rfl (ex_move rfl) ?_
                                      refine JL_q (wants_none rfl) rfl (ex_move rfl) ?_
                                      refine JL_q (wants_none rfl) rfl (ex_move rfl) ?_
                                      refine JL_q (wants_none rfl) rfl (ex_nilCheck rfl) ?_
                                      refine JL_q (wants_none rfl) rfl (ex_fieldAddr fi_85_0 rfl rfl) ?_
                                      refine JL_q (wants_none rfl) rfl (ex_fieldAddr fi_33_0 rfl rfl) ?_
                                      refine JL_q (wants_none rfl) rfl (ex_load_bx 11 ti_2 rfl rfl rfl) ?_
                                      refine JL_q (wants_none rfl) rfl (ex_sub rfl rfl) ?_
                                      refine JL_q (wants_none rfl) rfl (ex_move rfl) ?_
                                      refine JL_q (wants_none rfl) rfl (ex_build si_55 rfl (.cons fi_55_0 rfl rfl (.cons fi_55_1 rfl rfl (.cons fi_55_2 rfl rfl (.cons fi_55_3 rfl rfl (.cons fi_55_5 rfl rfl .nil))))) (fun w hh => ⟨cv_int, cv_int, cv_int, cv_int, cv_int, trivial⟩)) ?_
                                      refine JL_st (wants_none rfl) rfl (st_alloc zi_55 rfl) (fun b168 => ?_)
                                      refine JL_sk (wants_none rfl) (sk_store_bx' 0 ti_55 rfl rfl (fun w hh => (cv_aggs ⟨cv_int, cv_int, cv_int, cv_int, cv_int, cv_int, cv_int, cv_int, trivial⟩)) rfl rfl rfl rfl) ?_
                                      refine JL_nil ?_
                                      refine N_then ?_
                                      refine J_seq ?_
                                      refine J_draw [7] (by kernel_rfl) ?_
                                      refine JP_take (i := 0) [0, 1, 2, 3, 4, 5, 6, 8, 9, 10, 11, 12, 13, 14, 15, 16, 17, 18, 19, 20, 21, 22, 23, 24] [7] rfl (by kernel_rfl) (by kernel_rfl) (by kernel_rfl) rfl rfl (wants_none rfl) rfl (ex_fieldAddr fi_69_2 rfl rfl) ?_
                                      refine JP_take (i := 1) [0, 1, 2, 3, 4, 5, 6, 8, 9, 10, 11, 12, 13, 14, 15, 16, 17, 18, 19, 20, 21, 22, 23, 24] [7] rfl (by kernel_rfl) (by kernel_rfl) (by kernel_rfl) rfl rfl (wants_none rfl) rfl (ex_load_bx 2 ti_64 rfl rfl rfl) ?_
                                      refine JP_take (i := 2) [0, 1, 2, 3, 4, 5, 6, 8, 9, 10, 11, 12, 13, 14, 15, 16, 17, 18, 19, 20, 21, 22, 23, 24] [7] rfl (by kernel_rfl) (by kernel_rfl) (by kernel_rfl) rfl rfl (wants_none rfl) rfl (ex_move rfl) ?_
                                      refine JP_bnd fun y169 hy170 => ?_
                                      refine JP_sq (i := 3) [7] rfl (by kernel_rfl) (by kernel_rfl) (by kernel_rfl) rfl (wants_none rfl) rfl (sq_index 4 Try.underlying64 ti_2 rfl rfl rfl hy170) (fun q171 => ?_)
                                      refine JP_sq (i := 4) [8] rfl (by kernel_rfl) (by kernel_rfl) (by kernel_rfl) rfl (wants_none rfl) rfl (sq_load_pt_o 0 (opens_int _) ti_2 rfl rfl) (fun _ => ?_)
                                      refine JP_take (i := 5) [0, 1, 2, 3, 4, 5, 6, 7, 9, 10, 11, 12, 13, 14, 15, 16, 17, 18, 19, 20, 21, 22, 23, 24, 25] [8] rfl (by kernel_rfl) (by kernel_rfl) (by kernel_rfl) rfl rfl (wants_none rfl) rfl (ex_fieldAddr fi_69_3 rfl rfl) ?_
                                      refine JP_take (i := 6) [0, 1, 2, 3, 4, 5, 6, 7, 9, 10, 11, 12, 13, 14, 15, 16, 17, 18, 19, 20, 21, 22, 23, 24, 25] [8] rfl (by kernel_rfl) (by kernel_rfl) (by kernel_rfl) rfl rfl (wants_none rfl) rfl (ex_load_bx 3 ti_64 rfl rfl rfl) ?_
                                      refine JP_take (i := 7) [0, 1, 2, 3, 4, 5, 6, 7, 9, 10, 11, 12, 13, 14, 15, 16, 17, 18, 19, 20, 21, 22, 23, 24, 25] [8] rfl (by kernel_rfl) (by kernel_rfl) (by kernel_rfl) rfl rfl (wants_none rfl) rfl (ex_move rfl) ?_
                                      refine JP_bnd fun y173 hy174 => ?_
                                      refine JP_sq (i := 8) [8] rfl (by kernel_rfl) (by kernel_rfl) (by kernel_rfl) rfl (wants_none rfl) rfl (sq_index 6 Try.underlying64 ti_2 rfl rfl rfl hy174) (fun q175 => ?_)
                                      refine JP_sq (i := 9) [9] rfl (by kernel_rfl) (by kernel_rfl) (by kernel_rfl) rfl (wants_none rfl) rfl (sq_load_pt_o 0 (opens_int _) ti_2 rfl rfl) (fun _ => ?_)
                                      refine JP_take (i := 10) [0, 1, 2, 3, 4, 5, 6, 7, 8, 10, 11, 12, 13, 14, 15, 16, 17, 18, 19, 20, 21, 22, 23, 24, 25, 26] [9] rfl (by kernel_rfl) (by kernel_rfl) (by kernel_rfl) rfl rfl (wants_none rfl) rfl (ex_load_bx_agg 2 ti_55 rfl rfl rfl rfl) ?_
                                      refine JP_take (i := 11) [0, 1, 2, 3, 4, 5, 6, 7, 8, 10, 11, 12, 13, 14, 15, 16, 17, 18, 19, 20, 21, 22, 23, 24, 25, 26] [9] rfl (by kernel_rfl) (by kernel_rfl) (by kernel_rfl) rfl rfl (wants_none rfl) rfl (ex_buildN [(0, .int .i64 y169, [.int .i64 y169]), (1, .int .i64 y173, [.int .i64 y173]), (2, .agg #[.int .i64 1, .int .i64 ((mget s15.1 (⟨y70.at_, s107.1, s107.2.1, s107.2.2.1⟩ : Greading)).getD 0), .int .i64 y70.tape, .int .i64 (w64 (p0.Tapes - 1)), .int .i64 0, .int .i64 0, .int .i64 0, .int .i64 (ior 0 (w64 (1 * 2 ^ min (y70.tape : Int).toNat 64)))], [.int .i64 1, .int .i64 ((mget s15.1 (⟨y70.at_, s107.1, s107.2.1, s107.2.2.1⟩ : Greading)).getD 0), .int .i64 y70.tape, .int .i64 (w64 (p0.Tapes - 1)), .int .i64 0, .int .i64 0, .int .i64 0, .int .i64 (ior 0 (w64 (1 * 2 ^ min (y70.tape : Int).toNat 64)))])] si_107 rfl (.cons fi_107_0 rfl rfl rfl (.cons fi_107_1 rfl rfl rfl (.cons fi_107_2 rfl rfl rfl .nil))) (fun w hh => ⟨cv_int, cv_int, (cv_aggs ⟨cv_int, cv_int, cv_int, cv_int, cv_int, cv_int, cv_int, cv_int, trivial⟩), trivial⟩)) ?_
                                      refine JP_go [0, 1, 2, 3, 4, 5, 6, 7, 8, 10, 11, 12, 13, 14, 15, 16, 17, 18, 19, 20, 21, 22, 23, 24, 25, 26] [9] rfl rfl rfl (fun w178 h1_179 hp177 => ?_)
                                      refine JD_one (i := 12) (by kernel_rfl) ?_
                                      refine JO_sk rfl (wants_none rfl) (sk_store_bx' 9 ti_107 rfl rfl (fun w hh => (cv_aggs ⟨cv_int, cv_int, cv_int, cv_int, cv_int, cv_int, cv_int, cv_int, cv_int, cv_int, cv_bool, trivial⟩)) rfl rfl rfl rfl) (sub_bx 0 rfl) ?_
                                      refine JD_done (by kernel_rfl) ?_
                                      refine N_then ?_
                                      refine J_ret ?_
                                      exact N_inlJ1 hJ126 () rfl (rv_cell 9 rfl rfl ti_107 rfl) rfl [10, 11, 16, 19, 12, 13, 14, 20, 21, 22, 23, 24, 25, 26] rfl rfl
                                  · refine JL_sk (wants_none rfl) (sk_store_bx' 2 ti_107 rfl rfl (fun w hh => (cv_aggs ⟨cv_int, cv_int, cv_int, cv_int, cv_int, cv_int, cv_int, cv_int, cv_int, cv_int, cv_bool, trivial⟩)) rfl rfl rfl rfl) ?_
                                    refine JL_nil ?_
                                    refine N_then ?_
                                    refine J_ret ?_
                                    refine N_then_ret ?_
                                    refine N_then_ret ?_
                                    exact N_inlJ1 hJ86 () rfl (rv_cell 2 rfl rfl ti_107 rfl) rfl [0, 1, 13, 3, 4, 5, 6, 7, 8, 9, 10, 11, 12] rfl rfl
                                · refine J_skip ?_
                                  refine N_then ?_
                                  refine J_seq ?_
                                  refine J_region ?_
                                  refine JL_q (wants_none rfl) rfl (ex_build si_107 rfl (.cons fi_107_3 rfl rfl .nil) (fun w hh => ⟨cv_bool, trivial⟩)) ?_
                                  refine JL_sk (wants_none rfl) (sk_store_bx' 6 ti_107 rfl rfl (fun w hh => (cv_aggs ⟨cv_int, cv_int, cv_int, cv_int, cv_int, cv_int, cv_int, cv_int, cv_int, cv_int, cv_bool, trivial⟩)) rfl rfl rfl rfl) ?_
                                  refine JL_nil ?_
                                  refine N_then ?_
                                  refine J_ret ?_
                                  refine N_then_ret ?_
                                  exact N_inlJ1 hJ86 () rfl (rv_cell 6 rfl rfl ti_107 rfl) rfl [0, 1, 16, 9, 2, 3, 4, 10, 11, 12, 13, 14, 15] rfl rfl
                              · refine J_skip ?_
                                refine N_then ?_
                                refine J_seq ?_
                                refine J_region ?_
                                refine JL_q (wants_none rfl) rfl (ex_move rfl) ?_
                                refine JL_q (wants_none rfl) rfl (ex_load_bx_agg 7 ti_55 rfl rfl rfl rfl) ?_
                                refine JL_q (wants_none rfl) rfl (ex_buildN [(0, .int .i64 s62.2.2.2, [.int .i64 s62.2.2.2]), (1, .int .i64 1, [.int .i64 1]), (2, .agg #[.int .i64 y70.kind, .int .i64 y70.at_, .int .i64 (Int.tmod (w64 (y70.tape + 1)) p0.Tapes), .int .i64 y70.count, .int .i64 (if y70.tape = ((0 : Nat) : Int) then (w64 ((w64 (s62.2.2.2 - p0.Symbols)) + 1)) else y70.found_0), .int .i64 (if y70.tape = ((1 : Nat) : Int) then (w64 ((w64 (s62.2.2.2 - p0.Symbols)) + 1)) else y70.found_1), .int .i64 (if y70.tape = ((2 : Nat) : Int) then (w64 ((w64 (s62.2.2.2 - p0.Symbols)) + 1)) else y70.found_2), .int .i64 y70.done], [.int .i64 y70.kind, .int .i64 y70.at_, .int .i64 (Int.tmod (w64 (y70.tape + 1)) p0.Tapes), .int .i64 y70.count, .int .i64 (if y70.tape = ((0 : Nat) : Int) then (w64 ((w64 (s62.2.2.2 - p0.Symbols)) + 1)) else y70.found_0), .int .i64 (if y70.tape = ((1 : Nat) : Int) then (w64 ((w64 (s62.2.2.2 - p0.Symbols)) + 1)) else y70.found_1), .int .i64 (if y70.tape = ((2 : Nat) : Int) then (w64 ((w64 (s62.2.2.2 - p0.Symbols)) + 1)) else y70.found_2), .int .i64 y70.done])] si_107 rfl (.cons fi_107_0 rfl rfl rfl (.cons fi_107_1 rfl rfl rfl (.cons fi_107_2 rfl rfl rfl .nil))) (fun w hh => ⟨cv_int, cv_int, (cv_aggs ⟨cv_int, cv_int, cv_int, cv_int, cv_int, cv_int, cv_int, cv_int, trivial⟩), trivial⟩)) ?_
                                refine JL_sk (wants_none rfl) (sk_store_bx' 6 ti_107 rfl rfl (fun w hh => (cv_aggs ⟨cv_int, cv_int, cv_int, cv_int, cv_int, cv_int, cv_int, cv_int, cv_int, cv_int, cv_bool, trivial⟩)) rfl rfl rfl rfl) ?_
                                refine JL_nil ?_
                                refine N_then ?_
                                refine J_ret ?_
                                exact N_inlJ1 hJ86 () rfl (rv_cell 6 rfl rfl ti_107 rfl) rfl [0, 1, 16, 9, 2, 3, 4, 10, 11, 12, 13, 14, 15] rfl rfl
                          · refine J_skip ?_
                            refine N_then ?_
                            refine J_seq ?_
                            refine J_region ?_
                            refine JL_q (wants_none rfl) rfl (ex_move rfl) ?_
                            refine JL_q (wants_none rfl) rfl (ex_load_bx_agg 7 ti_55 rfl rfl rfl rfl) ?_
                            refine JL_q (wants_none rfl) rfl (ex_buildN [(0, .int .i64 s62.2.2.2, [.int .i64 s62.2.2.2]), (1, .int .i64 1, [.int .i64 1]), (2, .agg #[.int .i64 y70.kind, .int .i64 y70.at_, .int .i64 (Int.tmod (w64 (y70.tape + 1)) p0.Tapes), .int .i64 y70.count, .int .i64 y70.found_0, .int .i64 y70.found_1, .int .i64 y70.found_2, .int .i64 y70.done], [.int .i64 y70.kind, .int .i64 y70.at_, .int .i64 (Int.tmod (w64 (y70.tape + 1)) p0.Tapes), .int .i64 y70.count, .int .i64 y70.found_0, .int .i64 y70.found_1, .int .i64 y70.found_2, .int .i64 y70.done])] si_107 rfl (.cons fi_107_0 rfl rfl rfl (.cons fi_107_1 rfl rfl rfl (.cons fi_107_2 rfl rfl rfl .nil))) (fun w hh => ⟨cv_int, cv_int, (cv_aggs ⟨cv_int, cv_int, cv_int, cv_int, cv_int, cv_int, cv_int, cv_int, trivial⟩), trivial⟩)) ?_
                            refine JL_sk (wants_none rfl) (sk_store_bx' 6 ti_107 rfl rfl (fun w hh => (cv_aggs ⟨cv_int, cv_int, cv_int, cv_int, cv_int, cv_int, cv_int, cv_int, cv_int, cv_int, cv_bool, trivial⟩)) rfl rfl rfl rfl) ?_
                            refine JL_nil ?_
                            refine N_then ?_
                            refine J_ret ?_
                            exact N_inlJ1 hJ86 () rfl (rv_cell 6 rfl rfl ti_107 rfl) rfl [0, 1, 15, 8, 2, 3, 4, 9, 10, 11, 12, 13, 14] rfl rfl
                      · refine JL_sk (wants_none rfl) (sk_store_bx' 2 ti_107 rfl rfl (fun w hh => (cv_aggs ⟨cv_int, cv_int, cv_int, cv_int, cv_int, cv_int, cv_int, cv_int, cv_int, cv_int, cv_bool, trivial⟩)) rfl rfl rfl rfl) ?_
                        refine JL_nil ?_
                        refine N_then ?_
                        refine J_ret ?_
                        refine N_block_ret ?_
                        refine N_then_ret ?_
                        exact N_inlJ1 hJ78 () rfl (rv_cell 2 rfl rfl ti_107 rfl) rfl [0, 1, 4, 5, 6, 8, 9, 10, 11, 12, 3, 7] rfl rfl
                    · refine J_seq ?_
                      refine J_region ?_
                      refine JL_q (wants_none rfl) rfl (ex_eql rfl rfl) ?_
                      refine JL_q (wants_none rfl) rfl (ex_assign rfl) ?_
                      refine JL_nil ?_
                      refine N_then ?_
                      refine J_if rfl (fun h180 => ?_) (fun h180 => ?_)
                      · refine J_seq ?_
                        refine J_region ?_
                        refine JL_q (wants_none rfl) rfl (ex_move rfl) ?_
                        refine JL_q (wants_none rfl) rfl (ex_fieldAddr fi_55_1 rfl rfl) ?_
                        refine JL_q (wants_none rfl) rfl (ex_load_bx 2 ti_2 rfl rfl rfl) ?_
                        refine JL_q (wants_none rfl) rfl (ex_fieldAddr fi_55_3 rfl rfl) ?_
                        refine JL_q (wants_none rfl) rfl (ex_load_bx 2 ti_2 rfl rfl rfl) ?_
                        refine JL_q (wants_none rfl) rfl (ex_sub rfl rfl) ?_
                        refine JL_bnd fun r181 hr182 => ?_
                        refine JL_call (wants_none rfl) rfl Try.call55 rfl (Ca_of0 fun w hh => c_impl_leave _ w (fun _ hk => hk.elim) _ _ _ hr182) (fun _ => ?_)
                        refine JL_q (wants_none rfl) rfl (ex_buildN [(0, .int .i64 s62.2.2.2, [.int .i64 s62.2.2.2]), (1, .int .i64 (-1), [.int .i64 (-1)]), (2, .agg #[.int .i64 r181.kind, .int .i64 r181.at_, .int .i64 r181.tape, .int .i64 r181.count, .int .i64 r181.found_0, .int .i64 r181.found_1, .int .i64 r181.found_2, .int .i64 r181.done], [.int .i64 r181.kind, .int .i64 r181.at_, .int .i64 r181.tape, .int .i64 r181.count, .int .i64 r181.found_0, .int .i64 r181.found_1, .int .i64 r181.found_2, .int .i64 r181.done])] si_107 rfl (.cons fi_107_0 rfl rfl rfl (.cons fi_107_1 rfl rfl rfl (.cons fi_107_2 rfl rfl rfl .nil))) (fun w hh => ⟨cv_int, cv_int, (cv_aggs ⟨cv_int, cv_int, cv_int, cv_int, cv_int, cv_int, cv_int, cv_int, trivial⟩), trivial⟩)) ?_
                        refine JL_sk (wants_none rfl) (sk_store_bx' 1 ti_107 rfl rfl (fun w hh => (cv_aggs ⟨cv_int, cv_int, cv_int, cv_int, cv_int, cv_int, cv_int, cv_int, cv_int, cv_int, cv_bool, trivial⟩)) rfl rfl rfl rfl) ?_
                        refine JL_nil ?_
                        refine N_then ?_
                        refine J_ret ?_
                        refine N_block_ret ?_
                        refine N_then_ret ?_
                        exact N_inlJ1 hJ78 () rfl (rv_cell 1 rfl rfl ti_107 rfl) rfl [4, 5, 6, 7, 8, 9, 10, 11, 12, 3, 13, 14] rfl rfl
                      · refine J_seq ?_
                        refine J_region ?_
                        refine JL_q (wants_none rfl) rfl (ex_eql rfl rfl) ?_
                        refine JL_q (wants_none rfl) rfl (ex_assign rfl) ?_
                        refine JL_nil ?_
                        refine N_then ?_
                        refine J_if rfl (fun h183 => ?_) (fun h183 => ?_)
                        · refine J_seq ?_
                          refine J_cut' (S' := Unit) (G' := Unit) (fun _ _ => [(0, .pointer (some ⟨b27, 0, none⟩)), (2, .int .i64 s62.2.2.2), (4, .pointer (some ⟨b79, 0, none⟩)), (6, .pointer (some ⟨b80, 0, none⟩)), (7, .pointer (some ⟨b81, 0, none⟩))]) (fun _ _ => [.fz w29 C34, .fz w9 C12, .rd v0_0 p0.Rules, mpf Greading.enc (Value.int .i64) b14 s15.1, .bx b27 85 [.int .i64 p0.Tapes, .int .i64 p0.Symbols, .int .i64 p0.States, v0_0, .map (some b14)], .bx b79 55 [.int .i64 y70.kind, .int .i64 y70.at_, .int .i64 y70.tape, .int .i64 y70.count, .int .i64 y70.found_0, .int .i64 y70.found_1, .int .i64 y70.found_2, .int .i64 y70.done], .bx b80 107 [.int .i64 0, .int .i64 0, .int .i64 0, .int .i64 0, .int .i64 0, .int .i64 0, .int .i64 0, .int .i64 0, .int .i64 0, .int .i64 0, .bool false], .bx b81 55 [.int .i64 y70.kind, .int .i64 y70.at_, .int .i64 y70.tape, .int .i64 (w64 (y70.count - 1)), .int .i64 y70.found_0, .int .i64 y70.found_1, .int .i64 y70.found_2, .int .i64 y70.done], .bx b2 28 [.int .i64 0, .int .i64 0, .slice none 0 0], .bx b7 33 [.int .i64 p0.Tapes, .int .i64 p0.Symbols, .int .i64 p0.States, v0_0], .ow 91 g63_0 s62.1, .ow 55 (.slice (some ⟨b72, 0, none⟩) s62.2.1.length cap73) s62.2.1, mpf GmultiPlace.enc (Value.int .i64) b36 s62.2.2.1, .bx b37 80 [.int .i64 (w64 (2 * p0.Symbols)), .int .i64 0, g63_0, (.slice (some ⟨b72, 0, none⟩) s62.2.1.length cap73), .map (some b36)], .bx b67 91 [.int .i64 r65.Write, .int .i64 r65.Move, .int .i64 r65.Next]]) ?_ (fun s184 g185 => ?_)
                          · refine J_seq ?_
                            refine J_region ?_
                            refine JL_q (wants_none rfl) rfl (ex_move rfl) ?_
                            refine JL_q (wants_none rfl) rfl (ex_move rfl) ?_
                            refine JL_q (wants_none rfl) rfl (ex_nilCheck rfl) ?_
                            refine JL_q (wants_none rfl) rfl (ex_fieldAddr fi_85_0 rfl rfl) ?_
                            refine JL_q (wants_none rfl) rfl (ex_fieldAddr fi_33_1 rfl rfl) ?_
                            refine JL_q (wants_none rfl) rfl (ex_load_bx 8 ti_2 rfl rfl rfl) ?_
                            refine JL_q (wants_none rfl) rfl (ex_geq rfl rfl) ?_
                            refine JL_q (wants_none rfl) rfl (ex_move rfl) ?_
                            refine JL_cond (fun h186 => ?_) (fun h186 => ?_)
                            · refine JL_q (wants_some rfl rfl rfl h186) rfl (ex_fieldAddr fi_55_5 rfl rfl) ?_
                              refine JL_q (wants_some rfl rfl rfl h186) rfl (ex_load_bx 2 ti_2 rfl rfl rfl) ?_
                              refine JL_q (wants_some rfl rfl rfl h186) rfl (ex_fieldAddr fi_55_2 rfl rfl) ?_
                              refine JL_q (wants_some rfl rfl rfl h186) rfl (ex_load_bx 2 ti_2 rfl rfl rfl) ?_
                              refine JL_bnd fun u187 hu188 => ?_
                              refine JL_q (wants_some rfl rfl rfl h186) rfl (ex_shr rfl rfl (nneg_le hu188)) ?_
                              refine JL_q (wants_some rfl rfl rfl h186) rfl (ex_and rfl rfl) ?_
                              refine JL_q (wants_some rfl rfl rfl h186) rfl (ex_eql rfl rfl) ?_
                              refine JL_q (wants_none rfl) rfl (ex_pick_true rfl h186 rfl) ?_
                              refine JL_nil ?_
                              refine N_then ?_
                              refine J_if rfl (fun h189 => ?_) (fun h189 => ?_)
                              · refine J_seq ?_
                                refine J_region ?_
                                refine JL_q (wants_none rfl) rfl (ex_move rfl) ?_
                                refine JL_q (wants_none rfl) rfl (ex_fieldAddr fi_55_1 rfl rfl) ?_
                                refine JL_q (wants_none rfl) rfl (ex_load_bx 2 ti_2 rfl rfl rfl) ?_
                                refine JL_q (wants_none rfl) rfl (ex_fieldAddr fi_55_2 rfl rfl) ?_
                                refine JL_q (wants_none rfl) rfl (ex_load_bx 2 ti_2 rfl rfl rfl) ?_
                                refine JL_q (wants_none rfl) rfl (ex_fieldAddr fi_55_5 rfl rfl) ?_
                                refine JL_q (wants_none rfl) rfl (ex_load_bx 2 ti_2 rfl rfl rfl) ?_
                                refine JL_inline (wants_none rfl) rfl Try.call56 rfl Try.func56 rfl Try.ntmps56 rfl rfl (fun K_ hK190 => ?_)
                                refine J_inlJ (S := Int × Int × Int × Int × Int × Int × Int × Int × Int × Int × Bool) (G := Unit) (fun s191 _ => .agg #[.int .i64 s191.1, .int .i64 s191.2.1, .int .i64 s191.2.2.1, .int .i64 s191.2.2.2.1, .int .i64 s191.2.2.2.2.1, .int .i64 s191.2.2.2.2.2.1, .int .i64 s191.2.2.2.2.2.2.1, .int .i64 s191.2.2.2.2.2.2.2.1, .int .i64 s191.2.2.2.2.2.2.2.2.1, .int .i64 s191.2.2.2.2.2.2.2.2.2.1, .bool s191.2.2.2.2.2.2.2.2.2.2]) (fun s191 _ => [.fz w29 C34, .fz w9 C12, .bx b80 107 [.int .i64 0, .int .i64 0, .int .i64 0, .int .i64 0, .int .i64 0, .int .i64 0, .int .i64 0, .int .i64 0, .int .i64 0, .int .i64 0, .bool false], .bx b2 28 [.int .i64 0, .int .i64 0, .slice none 0 0], .rd v0_0 p0.Rules, mpf Greading.enc (Value.int .i64) b14 s15.1, .bx b27 85 [.int .i64 p0.Tapes, .int .i64 p0.Symbols, .int .i64 p0.States, v0_0, .map (some b14)], .bx b7 33 [.int .i64 p0.Tapes, .int .i64 p0.Symbols, .int .i64 p0.States, v0_0], .ow 91 g63_0 s62.1, .ow 55 (.slice (some ⟨b72, 0, none⟩) s62.2.1.length cap73) s62.2.1, mpf GmultiPlace.enc (Value.int .i64) b36 s62.2.2.1, .bx b37 80 [.int .i64 (w64 (2 * p0.Symbols)), .int .i64 0, g63_0, (.slice (some ⟨b72, 0, none⟩) s62.2.1.length cap73), .map (some b36)], .bx b67 91 [.int .i64 r65.Write, .int .i64 r65.Move, .int .i64 r65.Next]]) hK190 (fun K_ hJ193 => ?_) (fun s191 g192 => ?_)
                                · unfold F_impl_OneTapeMachine_L8
                                  refine J_seq ?_
                                  refine J_region ?_
                                  refine JL_st (wants_none rfl) rfl (st_alloc zi_107 rfl) (fun b194 => ?_)
                                  refine JL_nil ?_
                                  refine N_then ?_
                                  refine J_seq ?_
                                  refine J_region ?_
                                  refine JL_q (wants_none rfl) rfl (ex_move rfl) ?_
                                  refine JL_q (wants_none rfl) rfl (ex_nilCheck rfl) ?_
                                  refine JL_q (wants_none rfl) rfl (ex_fieldAddr fi_85_0 rfl rfl) ?_
                                  refine JL_q (wants_none rfl) rfl (ex_fieldAddr fi_33_3 rfl rfl) ?_
                                  refine JL_q (wants_none rfl) rfl (ex_load_bx 9 ti_31 rfl rfl rfl) ?_
                                  refine JL_q (wants_none rfl) rfl (ex_move rfl) ?_
                                  refine JL_bnd fun y195 hy196 => ?_
                                  refine JL_st (wants_none rfl) rfl (st_index 7 Try.underlying31 ti_69 rfl rfl rfl hy196) (fun q197 => ?_)
                                  refine JL_st (wants_none rfl) rfl (st_load_pt_o 0 (GMultiRule.opens _) ti_69 rfl rfl) (fun v198 => ?_)
                                  refine JL_st (wants_none rfl) rfl (st_alloc zi_69 rfl) (fun b199 => ?_)
                                  refine JL_sk (wants_none rfl) (sk_store_bx' 0 ti_69 rfl rfl (fun w hh => (cv_aggs ⟨cv_int, (hh.cv 1 rfl), (hh.cv 2 rfl), (hh.cv 3 rfl), cv_int, trivial⟩)) rfl rfl rfl rfl) ?_
                                  refine JL_nil ?_
                                  refine N_then ?_
                                  refine J_seq ?_
                                  refine J_region ?_
                                  refine JL_q (wants_none rfl) rfl (ex_move rfl) ?_
                                  refine JL_q (wants_none rfl) rfl (ex_move rfl) ?_
                                  refine JL_bnd fun u200 hu201 => ?_
                                  refine JL_q (wants_none rfl) rfl (ex_shl rfl rfl (nneg_le hu201)) ?_
                                  refine JL_q (wants_none rfl) rfl (ex_or rfl rfl) ?_
                                  refine JL_q (wants_none rfl) rfl (ex_assign rfl) ?_
                                  refine JL_nil ?_
                                  refine N_then ?_
                                  refine J_seq ?_
                                  refine J_seq ?_
                                  refine J_region ?_
                                  refine JL_q (wants_none rfl) rfl (ex_fieldAddr fi_69_3 rfl rfl) ?_
                                  refine JL_q (wants_none rfl) rfl (ex_load_bx 0 ti_64 rfl rfl rfl) ?_
                                  refine JL_q (wants_none rfl) rfl (ex_move rfl) ?_
                                  refine JL_bnd fun y202 hy203 => ?_
                                  refine JL_st (wants_none rfl) rfl (st_index 3 Try.underlying64 ti_2 rfl rfl rfl hy203) (fun q204 => ?_)
                                  refine JL_st (wants_none rfl) rfl (st_load_pt_o 0 (opens_int _) ti_2 rfl rfl) (fun _ => ?_)
                                  refine JL_q (wants_none rfl) rfl (ex_eql rfl rfl) ?_
                                  refine JL_nil ?_
                                  refine N_then ?_
                                  refine J_if rfl (fun h206 => ?_) (fun h206 => ?_)
                                  · refine J_seq ?_
                                    refine J_cut' (S' := Int × Int × Int × Int × Int × Int × Int × Int × Int × Int) (G' := Unit) (fun s207 _ => [(8, .pointer (some ⟨b194, 0, none⟩))]) (fun s207 _ => [.fz w29 C34, .fz w9 C12, .bx b194 107 [.int .i64 s207.1, .int .i64 s207.2.1, .int .i64 s207.2.2.1, .int .i64 s207.2.2.2.1, .int .i64 s207.2.2.2.2.1, .int .i64 s207.2.2.2.2.2.1, .int .i64 s207.2.2.2.2.2.2.1, .int .i64 s207.2.2.2.2.2.2.2.1, .int .i64 s207.2.2.2.2.2.2.2.2.1, .int .i64 s207.2.2.2.2.2.2.2.2.2, .bool false], .bx b2 28 [.int .i64 0, .int .i64 0, .slice none 0 0], .rd v0_0 p0.Rules, mpf Greading.enc (Value.int .i64) b14 s15.1, .bx b27 85 [.int .i64 p0.Tapes, .int .i64 p0.Symbols, .int .i64 p0.States, v0_0, .map (some b14)], .bx b7 33 [.int .i64 p0.Tapes, .int .i64 p0.Symbols, .int .i64 p0.States, v0_0], .ow 91 g63_0 s62.1, .ow 55 (.slice (some ⟨b72, 0, none⟩) s62.2.1.length cap73) s62.2.1, mpf GmultiPlace.enc (Value.int .i64) b36 s62.2.2.1, .bx b37 80 [.int .i64 (w64 (2 * p0.Symbols)), .int .i64 0, g63_0, (.slice (some ⟨b72, 0, none⟩) s62.2.1.length cap73), .map (some b36)], .bx b67 91 [.int .i64 r65.Write, .int .i64 r65.Move, .int .i64 r65.Next], .bx b80 107 [.int .i64 0, .int .i64 0, .int .i64 0, .int .i64 0, .int .i64 0, .int .i64 0, .int .i64 0, .int .i64 0, .int .i64 0, .int .i64 0, .bool false]]) ?_ (fun s207 g208 => ?_)
                                    · refine J_draw [6, 7, 9, 14, 16, 17, 18] (by kernel_rfl) ?_
                                      refine JP_take (i := 0) [0, 1, 2, 3, 4, 5, 8, 10, 11, 12, 13, 15, 19, 20, 21] [6, 7, 9, 14, 16, 17, 18] rfl (by kernel_rfl) (by kernel_rfl) (by kernel_rfl) rfl rfl (wants_none rfl) rfl (ex_fieldAddr fi_69_2 rfl rfl) ?_
                                      refine JP_take (i := 1) [0, 1, 2, 3, 4, 5, 8, 10, 11, 12, 13, 15, 19, 20, 21] [6, 7, 9, 14, 16, 17, 18] rfl (by kernel_rfl) (by kernel_rfl) (by kernel_rfl) rfl rfl (wants_none rfl) rfl (ex_load_bx 1 ti_64 rfl rfl rfl) ?_
                                      refine JP_take (i := 2) [0, 1, 2, 3, 4, 5, 8, 10, 11, 12, 13, 15, 19, 20, 21] [6, 7, 9, 14, 16, 17, 18] rfl (by kernel_rfl) (by kernel_rfl) (by kernel_rfl) rfl rfl (wants_none rfl) rfl (ex_move rfl) ?_
                                      refine JP_bnd fun y209 hy210 => ?_
                                      refine JP_sq (i := 3) [6, 7, 9, 14, 16, 17, 18] rfl (by kernel_rfl) (by kernel_rfl) (by kernel_rfl) rfl (wants_none rfl) rfl (sq_index 3 Try.underlying64 ti_2 rfl rfl rfl hy210) (fun q211 => ?_)
                                      refine JP_sq (i := 4) [7, 8, 10, 15, 17, 18, 19] rfl (by kernel_rfl) (by kernel_rfl) (by kernel_rfl) rfl (wants_none rfl) rfl (sq_load_pt_o 0 (opens_int _) ti_2 rfl rfl) (fun _ => ?_)
                                      refine JP_take (i := 5) [0, 1, 2, 3, 4, 5, 6, 9, 11, 12, 13, 14, 16, 20, 21, 22] [7, 8, 10, 15, 17, 18, 19] rfl (by kernel_rfl) (by kernel_rfl) (by kernel_rfl) rfl rfl (wants_none rfl) rfl (ex_move rfl) ?_
                                      refine JP_take (i := 6) [0, 1, 2, 3, 4, 5, 6, 9, 11, 12, 13, 14, 16, 20, 21, 22] [7, 8, 10, 15, 17, 18, 19] rfl (by kernel_rfl) (by kernel_rfl) (by kernel_rfl) rfl rfl (wants_none rfl) rfl (ex_nilCheck rfl) ?_
                                      refine JP_take (i := 7) [0, 1, 2, 3, 4, 5, 6, 9, 11, 12, 13, 14, 16, 20, 21, 22] [7, 8, 10, 15, 17, 18, 19] rfl (by kernel_rfl) (by kernel_rfl) (by kernel_rfl) rfl rfl (wants_none rfl) rfl (ex_fieldAddr fi_85_0 rfl rfl) ?_
                                      refine JP_take (i := 8) [0, 1, 2, 3, 4, 5, 6, 9, 11, 12, 13, 14, 16, 20, 21, 22] [7, 8, 10, 15, 17, 18, 19] rfl (by kernel_rfl) (by kernel_rfl) (by kernel_rfl) rfl rfl (wants_none rfl) rfl (ex_fieldAddr fi_33_1 rfl rfl) ?_
                                      refine JP_take (i := 9) [0, 1, 2, 3, 4, 5, 6, 9, 11, 12, 13, 14, 16, 20, 21, 22] [7, 8, 10, 15, 17, 18, 19] rfl (by kernel_rfl) (by kernel_rfl) (by kernel_rfl) rfl rfl (wants_none rfl) rfl (ex_load_bx 12 ti_2 rfl rfl rfl) ?_
                                      refine JP_take (i := 10) [0, 1, 2, 3, 4, 5, 6, 9, 11, 12, 13, 14, 16, 20, 21, 22] [7, 8, 10, 15, 17, 18, 19] rfl (by kernel_rfl) (by kernel_rfl) (by kernel_rfl) rfl rfl (wants_none rfl) rfl (ex_add rfl rfl) ?_
                                      refine JP_take (i := 11) [0, 1, 2, 3, 4, 5, 6, 9, 11, 12, 13, 14, 16, 20, 21, 22] [7, 8, 10, 15, 17, 18, 19] rfl (by kernel_rfl) (by kernel_rfl) (by kernel_rfl) rfl rfl (wants_none rfl) rfl (ex_move rfl) ?_
                                      refine JP_take (i := 12) [0, 1, 2, 3, 4, 5, 6, 9, 11, 12, 13, 14, 16, 20, 21, 22] [7, 8, 10, 15, 17, 18, 19] rfl (by kernel_rfl) (by kernel_rfl) (by kernel_rfl) rfl rfl (wants_none rfl) rfl (ex_move rfl) ?_
                                      refine JP_take (i := 13) [0, 1, 2, 3, 4, 5, 6, 9, 11, 12, 13, 14, 16, 20, 21, 22] [7, 8, 10, 15, 17, 18, 19] rfl (by kernel_rfl) (by kernel_rfl) (by kernel_rfl) rfl rfl (wants_none rfl) rfl (ex_move rfl) ?_
                                      refine JP_take (i := 14) [0, 1, 2, 3, 4, 5, 6, 9, 11, 12, 13, 14, 16, 20, 21, 22] [7, 8, 10, 15, 17, 18, 19] rfl (by kernel_rfl) (by kernel_rfl) (by kernel_rfl) rfl rfl (wants_none rfl) rfl (ex_move rfl) ?_
                                      refine JP_go [0, 1, 2, 3, 4, 5, 6, 9, 11, 12, 13, 14, 16, 20, 21, 22] [7, 8, 10, 15, 17, 18, 19] rfl rfl rfl (fun w214 h1_215 hp213 => ?_)
                                      refine JD_one (i := 15) (by kernel_rfl) ?_
                                      refine JO_inline h1_215 [7, 8, 10, 15, 17, 18, 19] [2, 9, 11, 16, 20, 21, 22] rfl rfl rfl rfl (wants_none rfl) rfl Try.call58 rfl Try.func58 rfl Try.ntmps58 rfl rfl (fun C217 K_ hK216 => ?_)
                                      refine J_seq ?_
                                      refine J_region ?_
                                      refine JL_st (wants_none rfl) rfl (st_alloc zi_55 rfl) (fun b218 => ?_)
                                      refine JL_nil ?_
                                      refine N_then ?_
                                      refine J_seq ?_
                                      refine J_seq ?_
                                      refine J_region ?_
                                      refine JL_q (wants_none rfl) rfl (ex_move rfl) ?_
                                      refine JL_q (wants_none rfl) rfl (ex_move rfl) ?_
                                      refine JL_q (wants_none rfl) rfl (ex_nilCheck rfl) ?_
                                      refine JL_q (wants_none rfl) rfl (ex_fieldAddr fi_85_0 rfl rfl) ?_
                                      refine JL_q (wants_none rfl) rfl (ex_fieldAddr fi_33_0 rfl rfl) ?_
                                      refine JL_q (wants_none rfl) rfl (ex_load_bx 18 ti_2 rfl rfl rfl) ?_
                                      refine JL_bnd fun u219 hu220 => ?_
                                      refine JL_q (wants_none rfl) rfl (ex_shl rfl rfl (nneg_le hu220)) ?_
                                      refine JL_q (wants_none rfl) rfl (ex_sub rfl rfl) ?_
                                      refine JL_q (wants_none rfl) rfl (ex_eql rfl rfl) ?_
                                      refine JL_nil ?_
                                      refine N_then ?_
                                      refine J_if rfl (fun h221 => ?_) (fun h221 => ?_)
                                      · refine J_seq ?_
                                        refine J_draw [0] (by kernel_rfl) ?_
                                        refine JP_take (i := 0) [1, 2, 3, 4, 5, 6, 7, 8, 9, 10, 11, 12, 13, 14, 15, 16, 17, 18, 19, 20, 21, 22, 23, 24] [0] rfl (by kernel_rfl) (by kernel_rfl) (by kernel_rfl) rfl rfl (wants_none rfl) rfl (ex_move rfl) ?_
                                        refine JP_take (i := 1) [1, 2, 3, 4, 5, 6, 7, 8, 9, 10, 11, 12, 13, 14, 15, 16, 17, 18, 19, 20, 21, 22, 23, 24] [0] rfl (by kernel_rfl) (by kernel_rfl) (by kernel_rfl) rfl rfl (wants_none rfl) rfl (ex_nilCheck rfl) ?_
                                        refine JP_take (i := 2) [1, 2, 3, 4, 5, 6, 7, 8, 9, 10, 11, 12, 13, 14, 15, 16, 17, 18, 19, 20, 21, 22, 23, 24] [0] rfl (by kernel_rfl) (by kernel_rfl) (by kernel_rfl) rfl rfl (wants_none rfl) rfl (ex_fieldAddr fi_85_0 rfl rfl) ?_
                                        refine JP_take (i := 3) [1, 2, 3, 4, 5, 6, 7, 8, 9, 10, 11, 12, 13, 14, 15, 16, 17, 18, 19, 20, 21, 22, 23, 24] [0] rfl (by kernel_rfl) (by kernel_rfl) (by kernel_rfl) rfl rfl (wants_none rfl) rfl (ex_fieldAddr fi_33_3 rfl rfl) ?_
                                        refine JP_take (i := 4) [1, 2, 3, 4, 5, 6, 7, 8, 9, 10, 11, 12, 13, 14, 15, 16, 17, 18, 19, 20, 21, 22, 23, 24] [0] rfl (by kernel_rfl) (by kernel_rfl) (by kernel_rfl) rfl rfl (wants_none rfl) rfl (ex_load_bx 17 ti_31 rfl rfl rfl) ?_
                                        refine JP_take (i := 5) [1, 2, 3, 4, 5, 6, 7, 8, 9, 10, 11, 12, 13, 14, 15, 16, 17, 18, 19, 20, 21, 22, 23, 24] [0] rfl (by kernel_rfl) (by kernel_rfl) (by kernel_rfl) rfl rfl (wants_none rfl) rfl (ex_move rfl) ?_
                                        refine JP_bnd fun y222 hy223 => ?_
                                        refine JP_sq (i := 6) [0] rfl (by kernel_rfl) (by kernel_rfl) (by kernel_rfl) rfl (wants_none rfl) rfl (sq_index 16 Try.underlying31 ti_69 rfl rfl rfl hy223) (fun q224 => ?_)
                                        refine JP_sq (i := 7) [1] rfl (by kernel_rfl) (by kernel_rfl) (by kernel_rfl) rfl (wants_none rfl) rfl (sq_field_pt 0 (GMultiRule.at_Next _) fi_69_4 rfl rfl rfl) (fun q225 => ?_)
                                        refine JP_sq (i := 8) [2] rfl (by kernel_rfl) (by kernel_rfl) (by kernel_rfl) rfl (wants_none rfl) rfl (sq_load_pt_o 0 (opens_int _) ti_2 rfl rfl) (fun _ => ?_)
                                        refine JP_take (i := 9) [0, 1, 3, 4, 5, 6, 7, 8, 9, 10, 11, 12, 13, 14, 15, 16, 17, 18, 19, 20, 21, 22, 23, 24, 25, 26] [2] rfl (by kernel_rfl) (by kernel_rfl) (by kernel_rfl) rfl rfl (wants_none rfl) rfl (ex_move rfl) ?_
                                        refine JP_take (i := 10) [0, 1, 3, 4, 5, 6, 7, 8, 9, 10, 11, 12, 13, 14, 15, 16, 17, 18, 19, 20, 21, 22, 23, 24, 25, 26] [2] rfl (by kernel_rfl) (by kernel_rfl) (by kernel_rfl) rfl rfl (wants_none rfl) rfl (ex_move rfl) ?_
                                        refine JP_take (i := 11) [0, 1, 3, 4, 5, 6, 7, 8, 9, 10, 11, 12, 13, 14, 15, 16, 17, 18, 19, 20, 21, 22, 23, 24, 25, 26] [2] rfl (by kernel_rfl) (by kernel_rfl) (by kernel_rfl) rfl rfl (wants_none rfl) rfl (ex_nilCheck rfl) ?_
                                        refine JP_take (i := 12) [0, 1, 3, 4, 5, 6, 7, 8, 9, 10, 11, 12, 13, 14, 15, 16, 17, 18, 19, 20, 21, 22, 23, 24, 25, 26] [2] rfl (by kernel_rfl) (by kernel_rfl) (by kernel_rfl) rfl rfl (wants_none rfl) rfl (ex_fieldAddr fi_85_0 rfl rfl) ?_
                                        refine JP_take (i := 13) [0, 1, 3, 4, 5, 6, 7, 8, 9, 10, 11, 12, 13, 14, 15, 16, 17, 18, 19, 20, 21, 22, 23, 24, 25, 26] [2] rfl (by kernel_rfl) (by kernel_rfl) (by kernel_rfl) rfl rfl (wants_none rfl) rfl (ex_fieldAddr fi_33_0 rfl rfl) ?_
                                        refine JP_take (i := 14) [0, 1, 3, 4, 5, 6, 7, 8, 9, 10, 11, 12, 13, 14, 15, 16, 17, 18, 19, 20, 21, 22, 23, 24, 25, 26] [2] rfl (by kernel_rfl) (by kernel_rfl) (by kernel_rfl) rfl rfl (wants_none rfl) rfl (ex_load_bx 19 ti_2 rfl rfl rfl) ?_
                                        refine JP_take (i := 15) [0, 1, 3, 4, 5, 6, 7, 8, 9, 10, 11, 12, 13, 14, 15, 16, 17, 18, 19, 20, 21, 22, 23, 24, 25, 26] [2] rfl (by kernel_rfl) (by kernel_rfl) (by kernel_rfl) rfl rfl (wants_none rfl) rfl (ex_add rfl rfl) ?_
                                        refine JP_take (i := 16) [0, 1, 3, 4, 5, 6, 7, 8, 9, 10, 11, 12, 13, 14, 15, 16, 17, 18, 19, 20, 21, 22, 23, 24, 25, 26] [2] rfl (by kernel_rfl) (by kernel_rfl) (by kernel_rfl) rfl rfl (wants_none rfl) rfl (ex_sub rfl rfl) ?_
                                        refine JP_go [0, 1, 3, 4, 5, 6, 7, 8, 9, 10, 11, 12, 13, 14, 15, 16, 17, 18, 19, 20, 21, 22, 23, 24, 25, 26] [2] rfl rfl rfl (fun w228 h1_229 hp227 => ?_)
                                        refine JD_bnd fun r230 hr231 => ?_
                                        refine JD_one (i := 17) (by kernel_rfl) ?_
                                        refine JO_call rfl (wants_none rfl) rfl Try.call55 rfl (Ca_of0 fun w hh => c_impl_leave _ w (fun _ hk => hk.elim) _ _ _ hr231) (fun _ => ?_)
                                        refine JD_one (i := 18) (by kernel_rfl) ?_
                                        refine JO_sk rfl (wants_none rfl) (sk_store_bx' 2 ti_55 rfl rfl (fun w hh => (cv_aggs ⟨cv_int, cv_int, cv_int, cv_int, cv_int, cv_int, cv_int, cv_int, trivial⟩)) rfl rfl rfl rfl) (sub_bx 0 rfl) ?_
                                        refine JD_done (by kernel_rfl) ?_
                                        refine N_then ?_
                                        refine J_ret ?_
                                        refine N_then_ret ?_
                                        refine N_inlD1 hK216 rfl (rv_cell 2 rfl rfl ti_55 rfl) 3 [6, 13, 15, 20, 24, 25, 26] rfl rfl ?_
                                        refine JD_take (i := 16) hp213 rfl (by kernel_rfl) (by kernel_rfl) (by kernel_rfl) (wants_none rfl) rfl (ex_buildN [(0, .int .i64 (w64 (y209 + p0.Symbols)), [.int .i64 (w64 (y209 + p0.Symbols))]), (1, .int .i64 (-1), [.int .i64 (-1)]), (2, .agg #[.int .i64 r230.kind, .int .i64 r230.at_, .int .i64 r230.tape, .int .i64 r230.count, .int .i64 r230.found_0, .int .i64 r230.found_1, .int .i64 r230.found_2, .int .i64 r230.done], [.int .i64 r230.kind, .int .i64 r230.at_, .int .i64 r230.tape, .int .i64 r230.count, .int .i64 r230.found_0, .int .i64 r230.found_1, .int .i64 r230.found_2, .int .i64 r230.done])] si_107 rfl (.cons fi_107_0 rfl rfl rfl (.cons fi_107_1 rfl rfl rfl (.cons fi_107_2 rfl rfl rfl .nil))) (fun w hh => ⟨cv_int, cv_int, (cv_aggs ⟨cv_int, cv_int, cv_int, cv_int, cv_int, cv_int, cv_int, cv_int, trivial⟩), trivial⟩)) ?_
                                        refine JD_one (i := 17) (by kernel_rfl) ?_
                                        refine JO_sk rfl (wants_none rfl) (sk_store_bx' 11 ti_107 rfl rfl (fun w hh => (cv_aggs ⟨cv_int, cv_int, cv_int, cv_int, cv_int, cv_int, cv_int, cv_int, cv_int, cv_int, cv_bool, trivial⟩)) rfl rfl rfl rfl) (sub_bx 0 rfl) ?_
                                        refine JD_done (by kernel_rfl) ?_
                                        exact N_meet' () ⟨rfl, trivial⟩ [16, 17, 11, 25, 18, 19, 20, 26, 21, 22, 23, 24, 15, 13] rfl rfl
                                      · refine J_skip ?_
                                        refine N_then ?_
                                        refine J_seq ?_
                                        refine J_region ?_
                                        refine JL_q (wants_none rfl) rfl (ex_move rfl) ?_
                                        refine JL_q (wants_none rfl) rfl (ex_move rfl) ?_
                                        refine JL_q (wants_none rfl) rfl (ex_move rfl) ?_
                                        refine JL_inline (wants_none rfl) rfl Try.call57 rfl Try.func57 rfl Try.ntmps57 rfl rfl (fun K_ hK232 => ?_)
                                        refine J_seq ?_
                                        refine J_region ?_
                                        refine JL_q (wants_none rfl) rfl (ex_assign rfl) ?_
                                        refine JL_nil ?_
                                        refine N_then ?_
                                        refine J_seq ?_
                                        refine J_draw [] (by kernel_rfl) ?_
                                        refine JP_take (i := 0) [0, 1, 2, 3, 4, 5, 6, 7, 8, 9, 10, 11, 12, 13, 14, 15, 16, 17, 18, 19, 20, 21, 22, 23, 24] [] rfl (by kernel_rfl) (by kernel_rfl) (by kernel_rfl) rfl rfl (wants_none rfl) rfl (ex_move rfl) ?_
                                        refine JP_take (i := 1) [0, 1, 2, 3, 4, 5, 6, 7, 8, 9, 10, 11, 12, 13, 14, 15, 16, 17, 18, 19, 20, 21, 22, 23, 24] [] rfl (by kernel_rfl) (by kernel_rfl) (by kernel_rfl) rfl rfl (wants_none rfl) rfl (ex_move rfl) ?_
                                        refine JP_take (i := 2) [0, 1, 2, 3, 4, 5, 6, 7, 8, 9, 10, 11, 12, 13, 14, 15, 16, 17, 18, 19, 20, 21, 22, 23, 24] [] rfl (by kernel_rfl) (by kernel_rfl) (by kernel_rfl) rfl rfl (wants_none rfl) rfl (ex_nilCheck rfl) ?_
                                        refine JP_take (i := 3) [0, 1, 2, 3, 4, 5, 6, 7, 8, 9, 10, 11, 12, 13, 14, 15, 16, 17, 18, 19, 20, 21, 22, 23, 24] [] rfl (by kernel_rfl) (by kernel_rfl) (by kernel_rfl) rfl rfl (wants_none rfl) rfl (ex_fieldAddr fi_85_0 rfl rfl) ?_
                                        refine JP_take (i := 4) [0, 1, 2, 3, 4, 5, 6, 7, 8, 9, 10, 11, 12, 13, 14, 15, 16, 17, 18, 19, 20, 21, 22, 23, 24] [] rfl (by kernel_rfl) (by kernel_rfl) (by kernel_rfl) rfl rfl (wants_none rfl) rfl (ex_fieldAddr fi_33_0 rfl rfl) ?_
                                        refine JP_take (i := 5) [0, 1, 2, 3, 4, 5, 6, 7, 8, 9, 10, 11, 12, 13, 14, 15, 16, 17, 18, 19, 20, 21, 22, 23, 24] [] rfl (by kernel_rfl) (by kernel_rfl) (by kernel_rfl) rfl rfl (wants_none rfl) rfl (ex_load_bx 18 ti_2 rfl rfl rfl) ?_
                                        refine JP_take (i := 6) [0, 1, 2, 3, 4, 5, 6, 7, 8, 9, 10, 11, 12, 13, 14, 15, 16, 17, 18, 19, 20, 21, 22, 23, 24] [] rfl (by kernel_rfl) (by kernel_rfl) (by kernel_rfl) rfl rfl (wants_none rfl) rfl (ex_add rfl rfl) ?_
                                        refine JP_take (i := 7) [0, 1, 2, 3, 4, 5, 6, 7, 8, 9, 10, 11, 12, 13, 14, 15, 16, 17, 18, 19, 20, 21, 22, 23, 24] [] rfl (by kernel_rfl) (by kernel_rfl) (by kernel_rfl) rfl rfl (wants_none rfl) rfl (ex_sub rfl rfl) ?_
                                        refine JP_take (i := 8) [0, 1, 2, 3, 4, 5, 6, 7, 8, 9, 10, 11, 12, 13, 14, 15, 16, 17, 18, 19, 20, 21, 22, 23, 24] [] rfl (by kernel_rfl) (by kernel_rfl) (by kernel_rfl) rfl rfl (wants_none rfl) rfl (ex_move rfl) ?_
                                        refine JP_take (i := 9) [0, 1, 2, 3, 4, 5, 6, 7, 8, 9, 10, 11, 12, 13, 14, 15, 16, 17, 18, 19, 20, 21, 22, 23, 24] [] rfl (by kernel_rfl) (by kernel_rfl) (by kernel_rfl) rfl rfl (wants_none rfl) rfl (ex_nilCheck rfl) ?_
                                        refine JP_take (i := 10) [0, 1, 2, 3, 4, 5, 6, 7, 8, 9, 10, 11, 12, 13, 14, 15, 16, 17, 18, 19, 20, 21, 22, 23, 24] [] rfl (by kernel_rfl) (by kernel_rfl) (by kernel_rfl) rfl rfl (wants_none rfl) rfl (ex_fieldAddr fi_85_0 rfl rfl) ?_
                                        refine JP_take (i := 11) [0, 1, 2, 3, 4, 5, 6, 7, 8, 9, 10, 11, 12, 13, 14, 15, 16, 17, 18, 19, 20, 21, 22, 23, 24] [] rfl (by kernel_rfl) (by kernel_rfl) (by kernel_rfl) rfl rfl (wants_none rfl) rfl (ex_fieldAddr fi_33_0 rfl rfl) ?_
                                        refine JP_take (i := 12) [0, 1, 2, 3, 4, 5, 6, 7, 8, 9, 10, 11, 12, 13, 14, 15, 16, 17, 18, 19, 20, 21, 22, 23, 24] [] rfl (by kernel_rfl) (by kernel_rfl) (by kernel_rfl) rfl rfl (wants_none rfl) rfl (ex_load_bx 18 ti_2 rfl rfl rfl) ?_
                                        refine JP_bnd fun u233 hu234 => ?_
                                        refine JP_take (i := 13) [0, 1, 2, 3, 4, 5, 6, 7, 8, 9, 10, 11, 12, 13, 14, 15, 16, 17, 18, 19, 20, 21, 22, 23, 24] [] rfl (by kernel_rfl) (by kernel_rfl) (by kernel_rfl) rfl rfl (wants_none rfl) rfl (ex_rem rfl rfl (nz_ne hu234)) ?_
                                        refine JP_take (i := 14) [0, 1, 2, 3, 4, 5, 6, 7, 8, 9, 10, 11, 12, 13, 14, 15, 16, 17, 18, 19, 20, 21, 22, 23, 24] [] rfl (by kernel_rfl) (by kernel_rfl) (by kernel_rfl) rfl rfl (wants_none rfl) rfl (ex_assign rfl) ?_
                                        refine JP_go [] [] rfl rfl rfl (fun _ _ _ => ?_)
                                        refine JD_done (by kernel_rfl) ?_
                                        refine N_then ?_
                                        refine J_ret ?_
                                        refine N_inl1 hK232 rfl (rv_tmp rfl) ?_
                                        refine JL_q (wants_none rfl) rfl (ex_move rfl) ?_
                                        refine JL_q (wants_none rfl) rfl (ex_build si_55 rfl (.cons fi_55_0 rfl rfl (.cons fi_55_1 rfl rfl (.cons fi_55_2 rfl rfl (.cons fi_55_5 rfl rfl .nil)))) (fun w hh => ⟨cv_int, cv_int, cv_int, cv_int, trivial⟩)) ?_
                                        refine JL_sk (wants_none rfl) (sk_store_bx' 0 ti_55 rfl rfl (fun w hh => (cv_aggs ⟨cv_int, cv_int, cv_int, cv_int, cv_int, cv_int, cv_int, cv_int, trivial⟩)) rfl rfl rfl rfl) ?_
                                        refine JL_nil ?_
                                        refine N_then ?_
                                        refine J_ret ?_
                                        refine N_inlD1 hK216 rfl (rv_cell 0 rfl rfl ti_55 rfl) 1 [4, 11, 13, 18, 22, 23, 24] rfl rfl ?_
                                        refine JD_take (i := 16) hp213 rfl (by kernel_rfl) (by kernel_rfl) (by kernel_rfl) (wants_none rfl) rfl (ex_buildN [(0, .int .i64 (w64 (y209 + p0.Symbols)), [.int .i64 (w64 (y209 + p0.Symbols))]), (1, .int .i64 (-1), [.int .i64 (-1)]), (2, .agg #[.int .i64 3, .int .i64 y70.at_, .int .i64 (Int.tmod (w64 ((w64 (y70.tape + p0.Tapes)) - 1)) p0.Tapes), .int .i64 0, .int .i64 0, .int .i64 0, .int .i64 0, .int .i64 (ior y70.done (w64 (1 * 2 ^ min (y70.tape : Int).toNat 64)))], [.int .i64 3, .int .i64 y70.at_, .int .i64 (Int.tmod (w64 ((w64 (y70.tape + p0.Tapes)) - 1)) p0.Tapes), .int .i64 0, .int .i64 0, .int .i64 0, .int .i64 0, .int .i64 (ior y70.done (w64 (1 * 2 ^ min (y70.tape : Int).toNat 64)))])] si_107 rfl (.cons fi_107_0 rfl rfl rfl (.cons fi_107_1 rfl rfl rfl (.cons fi_107_2 rfl rfl rfl .nil))) (fun w hh => ⟨cv_int, cv_int, (cv_aggs ⟨cv_int, cv_int, cv_int, cv_int, cv_int, cv_int, cv_int, cv_int, trivial⟩), trivial⟩)) ?_
                                        refine JD_one (i := 17) (by kernel_rfl) ?_
                                        refine JO_sk rfl (wants_none rfl) (sk_store_bx' 9 ti_107 rfl rfl (fun w hh => (cv_aggs ⟨cv_int, cv_int, cv_int, cv_int, cv_int, cv_int, cv_int, cv_int, cv_int, cv_int, cv_bool, trivial⟩)) rfl rfl rfl rfl) (sub_bx 0 rfl) ?_
                                        refine JD_done (by kernel_rfl) ?_
                                        exact N_meet' () ⟨rfl, trivial⟩ [14, 15, 9, 23, 16, 17, 18, 24, 19, 20, 21, 22, 13, 11] rfl rfl
                                    · refine N_then ?_
                                      refine J_ret ?_
                                      refine N_then_ret ?_
                                      exact N_inlJ1 hJ193 () rfl (rv_cell 2 rfl rfl ti_107 rfl) rfl [0, 1, 13, 3, 4, 5, 6, 7, 8, 9, 10, 11, 12] rfl rfl
                                  · refine J_skip ?_
                                    refine N_then ?_
                                    refine J_seq ?_
                                    refine J_region ?_
                                    refine JL_q (wants_none rfl) rfl (ex_move rfl) ?_
                                    refine JL_q (wants_none rfl) rfl (ex_move rfl) ?_
                                    refine JL_q (wants_none rfl) rfl (ex_move rfl) ?_
                                    refine JL_q (wants_none rfl) rfl (ex_nilCheck rfl) ?_
                                    refine JL_q (wants_none rfl) rfl (ex_fieldAddr fi_85_0 rfl rfl) ?_
                                    refine JL_q (wants_none rfl) rfl (ex_fieldAddr fi_33_0 rfl rfl) ?_
                                    refine JL_q (wants_none rfl) rfl (ex_load_bx 15 ti_2 rfl rfl rfl) ?_
                                    refine JL_q (wants_none rfl) rfl (ex_sub rfl rfl) ?_
                                    refine JL_q (wants_none rfl) rfl (ex_move rfl) ?_
                                    refine JL_q (wants_none rfl) rfl (ex_build si_55 rfl (.cons fi_55_0 rfl rfl (.cons fi_55_1 rfl rfl (.cons fi_55_2 rfl rfl (.cons fi_55_3 rfl rfl (.cons fi_55_5 rfl rfl .nil))))) (fun w hh => ⟨cv_int, cv_int, cv_int, cv_int, cv_int, trivial⟩)) ?_
                                    refine JL_st (wants_none rfl) rfl (st_alloc zi_55 rfl) (fun b235 => ?_)
                                    refine JL_sk (wants_none rfl) (sk_store_bx' 0 ti_55 rfl rfl (fun w hh => (cv_aggs ⟨cv_int, cv_int, cv_int, cv_int, cv_int, cv_int, cv_int, cv_int, trivial⟩)) rfl rfl rfl rfl) ?_
                                    refine JL_nil ?_
                                    refine N_then ?_
                                    refine J_seq ?_
                                    refine J_draw [7] (by kernel_rfl) ?_
                                    refine JP_take (i := 0) [0, 1, 2, 3, 4, 5, 6, 8, 9, 10, 11, 12, 13, 14, 15, 16, 17, 18, 19, 20, 21, 22] [7] rfl (by kernel_rfl) (by kernel_rfl) (by kernel_rfl) rfl rfl (wants_none rfl) rfl (ex_fieldAddr fi_69_2 rfl rfl) ?_
                                    refine JP_take (i := 1) [0, 1, 2, 3, 4, 5, 6, 8, 9, 10, 11, 12, 13, 14, 15, 16, 17, 18, 19, 20, 21, 22] [7] rfl (by kernel_rfl) (by kernel_rfl) (by kernel_rfl) rfl rfl (wants_none rfl) rfl (ex_load_bx 2 ti_64 rfl rfl rfl) ?_
                                    refine JP_take (i := 2) [0, 1, 2, 3, 4, 5, 6, 8, 9, 10, 11, 12, 13, 14, 15, 16, 17, 18, 19, 20, 21, 22] [7] rfl (by kernel_rfl) (by kernel_rfl) (by kernel_rfl) rfl rfl (wants_none rfl) rfl (ex_move rfl) ?_
                                    refine JP_bnd fun y236 hy237 => ?_
                                    refine JP_sq (i := 3) [7] rfl (by kernel_rfl) (by kernel_rfl) (by kernel_rfl) rfl (wants_none rfl) rfl (sq_index 4 Try.underlying64 ti_2 rfl rfl rfl hy237) (fun q238 => ?_)
                                    refine JP_sq (i := 4) [8] rfl (by kernel_rfl) (by kernel_rfl) (by kernel_rfl) rfl (wants_none rfl) rfl (sq_load_pt_o 0 (opens_int _) ti_2 rfl rfl) (fun _ => ?_)
                                    refine JP_take (i := 5) [0, 1, 2, 3, 4, 5, 6, 7, 9, 10, 11, 12, 13, 14, 15, 16, 17, 18, 19, 20, 21, 22, 23] [8] rfl (by kernel_rfl) (by kernel_rfl) (by kernel_rfl) rfl rfl (wants_none rfl) rfl (ex_fieldAddr fi_69_3 rfl rfl) ?_
                                    refine JP_take (i := 6) [0, 1, 2, 3, 4, 5, 6, 7, 9, 10, 11, 12, 13, 14, 15, 16, 17, 18, 19, 20, 21, 22, 23] [8] rfl (by kernel_rfl) (by kernel_rfl) (by kernel_rfl) rfl rfl (wants_none rfl) rfl (ex_load_bx 3 ti_64 rfl rfl rfl) ?_
                                    refine JP_take (i := 7) [0, 1, 2, 3, 4, 5, 6, 7, 9, 10, 11, 12, 13, 14, 15, 16, 17, 18, 19, 20, 21, 22, 23] [8] rfl (by kernel_rfl) (by kernel_rfl) (by kernel_rfl) rfl rfl (wants_none rfl) rfl (ex_move rfl) ?_
                                    refine JP_bnd fun y240 hy241 => ?_
                                    refine JP_sq (i := 8) [8] rfl (by kernel_rfl) (by kernel_rfl) (by kernel_rfl) rfl (wants_none rfl) rfl (sq_index 6 Try.underlying64 ti_2 rfl rfl rfl hy241) (fun q242 => ?_)
                                    refine JP_sq (i := 9) [9] rfl (by kernel_rfl) (by kernel_rfl) (by kernel_rfl) rfl (wants_none rfl) rfl (sq_load_pt_o 0 (opens_int _) ti_2 rfl rfl) (fun _ => ?_)
                                    refine JP_take (i := 10) [0, 1, 2, 3, 4, 5, 6, 7, 8, 10, 11, 12, 13, 14, 15, 16, 17, 18, 19, 20, 21, 22, 23, 24] [9] rfl (by kernel_rfl) (by kernel_rfl) (by kernel_rfl) rfl rfl (wants_none rfl) rfl (ex_load_bx_agg 2 ti_55 rfl rfl rfl rfl) ?_
                                    refine JP_take (i := 11) [0, 1, 2, 3, 4, 5, 6, 7, 8, 10, 11, 12, 13, 14, 15, 16, 17, 18, 19, 20, 21, 22, 23, 24] [9] rfl (by kernel_rfl) (by kernel_rfl) (by kernel_rfl) rfl rfl (wants_none rfl) rfl (ex_buildN [(0, .int .i64 y236, [.int .i64 y236]), (1, .int .i64 y240, [.int .i64 y240]), (2, .agg #[.int .i64 1, .int .i64 y70.at_, .int .i64 y70.tape, .int .i64 (w64 (p0.Tapes - 1)), .int .i64 0, .int .i64 0, .int .i64 0, .int .i64 (ior y70.done (w64 (1 * 2 ^ min (y70.tape : Int).toNat 64)))], [.int .i64 1, .int .i64 y70.at_, .int .i64 y70.tape, .int .i64 (w64 (p0.Tapes - 1)), .int .i64 0, .int .i64 0, .int .i64 0, .int .i64 (ior y70.done (w64 (1 * 2 ^ min (y70.tape : Int).toNat 64)))])] si_107 rfl (.cons fi_107_0 rfl rfl rfl (.cons fi_107_1 rfl rfl rfl (.cons fi_107_2 rfl rfl rfl .nil))) (fun w hh => ⟨cv_int, cv_int, (cv_aggs ⟨cv_int, cv_int, cv_int, cv_int, cv_int, cv_int, cv_int, cv_int, trivial⟩), trivial⟩)) ?_
                                    refine JP_go [0, 1, 2, 3, 4, 5, 6, 7, 8, 10, 11, 12, 13, 14, 15, 16, 17, 18, 19, 20, 21, 22, 23, 24] [9] rfl rfl rfl (fun w245 h1_246 hp244 => ?_)
                                    refine JD_one (i := 12) (by kernel_rfl) ?_
                                    refine JO_sk rfl (wants_none rfl) (sk_store_bx' 9 ti_107 rfl rfl (fun w hh => (cv_aggs ⟨cv_int, cv_int, cv_int, cv_int, cv_int, cv_int, cv_int, cv_int, cv_int, cv_int, cv_bool, trivial⟩)) rfl rfl rfl rfl) (sub_bx 0 rfl) ?_
                                    refine JD_done (by kernel_rfl) ?_
                                    refine N_then ?_
                                    refine J_ret ?_
                                    exact N_inlJ1 hJ193 () rfl (rv_cell 9 rfl rfl ti_107 rfl) rfl [14, 15, 11, 23, 16, 17, 18, 24, 19, 20, 21, 22, 13] rfl rfl
                                · refine JL_sk (wants_none rfl) (sk_store_bx' 2 ti_107 rfl rfl (fun w hh => (cv_aggs ⟨cv_int, cv_int, cv_int, cv_int, cv_int, cv_int, cv_int, cv_int, cv_int, cv_int, cv_bool, trivial⟩)) rfl rfl rfl rfl) ?_
                                  refine JL_nil ?_
                                  refine N_then ?_
                                  refine J_ret ?_
                                  refine N_mid_reti ?_
                                  refine N_then_ret ?_
                                  refine N_block_ret ?_
                                  refine N_then_ret ?_
                                  exact N_inlJ1 hJ78 () rfl (rv_cell 2 rfl rfl ti_107 rfl) rfl [0, 1, 4, 5, 6, 8, 9, 10, 11, 12, 3, 7] rfl rfl
                              · refine J_skip ?_
                                exact N_meet' () ⟨rfl, rfl, rfl, rfl, rfl, trivial⟩ [4, 5, 6, 7, 8, 2, 1, 0, 13, 14, 9, 10, 11, 12, 3] rfl rfl
                            · refine JL_passed rfl rfl rfl h186 ?_
                              refine JL_passed rfl rfl rfl h186 ?_
                              refine JL_passed rfl rfl rfl h186 ?_
                              refine JL_passed rfl rfl rfl h186 ?_
                              refine JL_passed rfl rfl rfl h186 ?_
                              refine JL_passed rfl rfl rfl h186 ?_
                              refine JL_passed rfl rfl rfl h186 ?_
                              refine JL_q (wants_none rfl) rfl (ex_pick_false rfl h186 rfl) ?_
                              refine JL_nil ?_
                              refine N_then ?_
                              refine J_if_false rfl rfl ?_
                              refine J_skip ?_
                              exact N_meet' () ⟨rfl, rfl, rfl, rfl, rfl, trivial⟩ [4, 5, 6, 7, 8, 2, 1, 0, 13, 14, 9, 10, 11, 12, 3] rfl rfl
                          · refine N_then ?_
                            refine J_seq ?_
                            refine J_region ?_
                            refine JL_q (wants_none rfl) rfl (ex_move rfl) ?_
                            refine JL_q (wants_none rfl) rfl (ex_fieldAddr fi_55_2 rfl rfl) ?_
                            refine JL_q (wants_none rfl) rfl (ex_load_bx 5 ti_2 rfl rfl rfl) ?_
                            refine JL_inline (wants_none rfl) rfl Try.call57 rfl Try.func57 rfl Try.ntmps57 rfl rfl (fun K_ hK247 => ?_)
                            refine J_seq ?_
                            refine J_region ?_
                            refine JL_q (wants_none rfl) rfl (ex_assign rfl) ?_
                            refine JL_nil ?_
                            refine N_then ?_
                            refine J_seq ?_
                            refine J_draw [] (by kernel_rfl) ?_
                            refine JP_take (i := 0) [0, 1, 2, 3, 4, 5, 6, 7, 8, 9, 10, 11, 12, 13, 14] [] rfl (by kernel_rfl) (by kernel_rfl) (by kernel_rfl) rfl rfl (wants_none rfl) rfl (ex_move rfl) ?_
                            refine JP_take (i := 1) [0, 1, 2, 3, 4, 5, 6, 7, 8, 9, 10, 11, 12, 13, 14] [] rfl (by kernel_rfl) (by kernel_rfl) (by kernel_rfl) rfl rfl (wants_none rfl) rfl (ex_move rfl) ?_
                            refine JP_take (i := 2) [0, 1, 2, 3, 4, 5, 6, 7, 8, 9, 10, 11, 12, 13, 14] [] rfl (by kernel_rfl) (by kernel_rfl) (by kernel_rfl) rfl rfl (wants_none rfl) rfl (ex_nilCheck rfl) ?_
                            refine JP_take (i := 3) [0, 1, 2, 3, 4, 5, 6, 7, 8, 9, 10, 11, 12, 13, 14] [] rfl (by kernel_rfl) (by kernel_rfl) (by kernel_rfl) rfl rfl (wants_none rfl) rfl (ex_fieldAddr fi_85_0 rfl rfl) ?_
                            refine JP_take (i := 4) [0, 1, 2, 3, 4, 5, 6, 7, 8, 9, 10, 11, 12, 13, 14] [] rfl (by kernel_rfl) (by kernel_rfl) (by kernel_rfl) rfl rfl (wants_none rfl) rfl (ex_fieldAddr fi_33_0 rfl rfl) ?_
                            refine JP_take (i := 5) [0, 1, 2, 3, 4, 5, 6, 7, 8, 9, 10, 11, 12, 13, 14] [] rfl (by kernel_rfl) (by kernel_rfl) (by kernel_rfl) rfl rfl (wants_none rfl) rfl (ex_load_bx 4 ti_2 rfl rfl rfl) ?_
                            refine JP_take (i := 6) [0, 1, 2, 3, 4, 5, 6, 7, 8, 9, 10, 11, 12, 13, 14] [] rfl (by kernel_rfl) (by kernel_rfl) (by kernel_rfl) rfl rfl (wants_none rfl) rfl (ex_add rfl rfl) ?_
                            refine JP_take (i := 7) [0, 1, 2, 3, 4, 5, 6, 7, 8, 9, 10, 11, 12, 13, 14] [] rfl (by kernel_rfl) (by kernel_rfl) (by kernel_rfl) rfl rfl (wants_none rfl) rfl (ex_sub rfl rfl) ?_
                            refine JP_take (i := 8) [0, 1, 2, 3, 4, 5, 6, 7, 8, 9, 10, 11, 12, 13, 14] [] rfl (by kernel_rfl) (by kernel_rfl) (by kernel_rfl) rfl rfl (wants_none rfl) rfl (ex_move rfl) ?_
                            refine JP_take (i := 9) [0, 1, 2, 3, 4, 5, 6, 7, 8, 9, 10, 11, 12, 13, 14] [] rfl (by kernel_rfl) (by kernel_rfl) (by kernel_rfl) rfl rfl (wants_none rfl) rfl (ex_nilCheck rfl) ?_
                            refine JP_take (i := 10) [0, 1, 2, 3, 4, 5, 6, 7, 8, 9, 10, 11, 12, 13, 14] [] rfl (by kernel_rfl) (by kernel_rfl) (by kernel_rfl) rfl rfl (wants_none rfl) rfl (ex_fieldAddr fi_85_0 rfl rfl) ?_
                            refine JP_take (i := 11) [0, 1, 2, 3, 4, 5, 6, 7, 8, 9, 10, 11, 12, 13, 14] [] rfl (by kernel_rfl) (by kernel_rfl) (by kernel_rfl) rfl rfl (wants_none rfl) rfl (ex_fieldAddr fi_33_0 rfl rfl) ?_
                            refine JP_take (i := 12) [0, 1, 2, 3, 4, 5, 6, 7, 8, 9, 10, 11, 12, 13, 14] [] rfl (by kernel_rfl) (by kernel_rfl) (by kernel_rfl) rfl rfl (wants_none rfl) rfl (ex_load_bx 4 ti_2 rfl rfl rfl) ?_
                            refine JP_bnd fun u248 hu249 => ?_
                            refine JP_take (i := 13) [0, 1, 2, 3, 4, 5, 6, 7, 8, 9, 10, 11, 12, 13, 14] [] rfl (by kernel_rfl) (by kernel_rfl) (by kernel_rfl) rfl rfl (wants_none rfl) rfl (ex_rem rfl rfl (nz_ne hu249)) ?_
                            refine JP_take (i := 14) [0, 1, 2, 3, 4, 5, 6, 7, 8, 9, 10, 11, 12, 13, 14] [] rfl (by kernel_rfl) (by kernel_rfl) (by kernel_rfl) rfl rfl (wants_none rfl) rfl (ex_assign rfl) ?_
                            refine JP_go [] [] rfl rfl rfl (fun _ _ _ => ?_)
                            refine JD_done (by kernel_rfl) ?_
                            refine N_then ?_
                            refine J_ret ?_
                            refine N_inl1 hK247 rfl (rv_tmp rfl) ?_
                            refine JL_q (wants_none rfl) rfl (ex_fieldAddr fi_55_3 rfl rfl) ?_
                            refine JL_sk (wants_none rfl) (sk_store_bx' 7 ti_2 rfl rfl (fun w hh => cv_int) rfl rfl rfl rfl) ?_
                            refine JL_q (wants_none rfl) rfl (ex_fieldAddr fi_55_2 rfl rfl) ?_
                            refine JL_sk (wants_none rfl) (sk_store_bx' 7 ti_2 rfl rfl (fun w hh => cv_int) rfl rfl rfl rfl) ?_
                            refine JL_nil ?_
                            refine N_then ?_
                            refine J_seq ?_
                            refine J_region ?_
                            refine JL_q (wants_none rfl) rfl (ex_move rfl) ?_
                            refine JL_q (wants_none rfl) rfl (ex_load_bx_agg 7 ti_55 rfl rfl rfl rfl) ?_
                            refine JL_q (wants_none rfl) rfl (ex_buildN [(0, .int .i64 s62.2.2.2, [.int .i64 s62.2.2.2]), (1, .int .i64 (-1), [.int .i64 (-1)]), (2, .agg #[.int .i64 y70.kind, .int .i64 y70.at_, .int .i64 (Int.tmod (w64 ((w64 (y70.tape + p0.Tapes)) - 1)) p0.Tapes), .int .i64 0, .int .i64 y70.found_0, .int .i64 y70.found_1, .int .i64 y70.found_2, .int .i64 y70.done], [.int .i64 y70.kind, .int .i64 y70.at_, .int .i64 (Int.tmod (w64 ((w64 (y70.tape + p0.Tapes)) - 1)) p0.Tapes), .int .i64 0, .int .i64 y70.found_0, .int .i64 y70.found_1, .int .i64 y70.found_2, .int .i64 y70.done])] si_107 rfl (.cons fi_107_0 rfl rfl rfl (.cons fi_107_1 rfl rfl rfl (.cons fi_107_2 rfl rfl rfl .nil))) (fun w hh => ⟨cv_int, cv_int, (cv_aggs ⟨cv_int, cv_int, cv_int, cv_int, cv_int, cv_int, cv_int, cv_int, trivial⟩), trivial⟩)) ?_
                            refine JL_sk (wants_none rfl) (sk_store_bx' 6 ti_107 rfl rfl (fun w hh => (cv_aggs ⟨cv_int, cv_int, cv_int, cv_int, cv_int, cv_int, cv_int, cv_int, cv_int, cv_int, cv_bool, trivial⟩)) rfl rfl rfl rfl) ?_
                            refine JL_nil ?_
                            refine N_then ?_
                            refine J_ret ?_
                            refine N_block_ret ?_
                            refine N_then_ret ?_
                            exact N_inlJ1 hJ78 () rfl (rv_cell 6 rfl rfl ti_107 rfl) rfl [0, 1, 2, 3, 4, 10, 11, 12, 13, 14, 8, 9] rfl rfl
                        · refine J_skip ?_
                          refine N_block ?_
                          refine N_then ?_
                          refine J_seq ?_
                          refine J_draw [] (by kernel_rfl) ?_
                          refine JP_take (i := 0) [0, 1, 2, 3, 4, 5, 6, 7, 8, 9, 10, 11, 12, 13, 14] [] rfl (by kernel_rfl) (by kernel_rfl) (by kernel_rfl) rfl rfl (wants_none rfl) rfl (ex_move rfl) ?_
                          refine JP_take (i := 1) [0, 1, 2, 3, 4, 5, 6, 7, 8, 9, 10, 11, 12, 13, 14] [] rfl (by kernel_rfl) (by kernel_rfl) (by kernel_rfl) rfl rfl (wants_none rfl) rfl (ex_nilCheck rfl) ?_
                          refine JP_take (i := 2) [0, 1, 2, 3, 4, 5, 6, 7, 8, 9, 10, 11, 12, 13, 14] [] rfl (by kernel_rfl) (by kernel_rfl) (by kernel_rfl) rfl rfl (wants_none rfl) rfl (ex_fieldAddr fi_85_0 rfl rfl) ?_
                          refine JP_take (i := 3) [0, 1, 2, 3, 4, 5, 6, 7, 8, 9, 10, 11, 12, 13, 14] [] rfl (by kernel_rfl) (by kernel_rfl) (by kernel_rfl) rfl rfl (wants_none rfl) rfl (ex_fieldAddr fi_33_3 rfl rfl) ?_
                          refine JP_take (i := 4) [0, 1, 2, 3, 4, 5, 6, 7, 8, 9, 10, 11, 12, 13, 14] [] rfl (by kernel_rfl) (by kernel_rfl) (by kernel_rfl) rfl rfl (wants_none rfl) rfl (ex_load_bx 8 ti_31 rfl rfl rfl) ?_
                          refine JP_take (i := 5) [0, 1, 2, 3, 4, 5, 6, 7, 8, 9, 10, 11, 12, 13, 14] [] rfl (by kernel_rfl) (by kernel_rfl) (by kernel_rfl) rfl rfl (wants_none rfl) rfl (ex_fieldAddr fi_55_1 rfl rfl) ?_
                          refine JP_take (i := 6) [0, 1, 2, 3, 4, 5, 6, 7, 8, 9, 10, 11, 12, 13, 14] [] rfl (by kernel_rfl) (by kernel_rfl) (by kernel_rfl) rfl rfl (wants_none rfl) rfl (ex_load_bx 2 ti_2 rfl rfl rfl) ?_
                          refine JP_bnd fun y250 hy251 => ?_
                          refine JP_sq (i := 7) [] rfl (by kernel_rfl) (by kernel_rfl) (by kernel_rfl) rfl (wants_none rfl) rfl (sq_index 6 Try.underlying31 ti_69 rfl rfl rfl hy251) (fun q252 => ?_)
                          refine JP_sq (i := 8) [] rfl (by kernel_rfl) (by kernel_rfl) (by kernel_rfl) rfl (wants_none rfl) rfl (sq_field_pt 0 (GMultiRule.at_Move _) fi_69_3 rfl rfl rfl) (fun q253 => ?_)
                          refine JP_sq (i := 9) [] rfl (by kernel_rfl) (by kernel_rfl) (by kernel_rfl) rfl (wants_none rfl) rfl (sq_load_pt_o 0 (opens_sl _) ti_64 rfl rfl) (fun v254 => ?_)
                          refine JP_take (i := 10) [0, 1, 2, 3, 4, 5, 6, 7, 8, 9, 10, 11, 12, 13, 14, 15, 16, 17] [] rfl (by kernel_rfl) (by kernel_rfl) (by kernel_rfl) rfl rfl (wants_none rfl) rfl (ex_fieldAddr fi_55_2 rfl rfl) ?_
                          refine JP_take (i := 11) [0, 1, 2, 3, 4, 5, 6, 7, 8, 9, 10, 11, 12, 13, 14, 15, 16, 17] [] rfl (by kernel_rfl) (by kernel_rfl) (by kernel_rfl) rfl rfl (wants_none rfl) rfl (ex_load_bx 5 ti_2 rfl rfl rfl) ?_
                          refine JP_bnd fun y255 hy256 => ?_
                          refine JP_sq (i := 12) [] rfl (by kernel_rfl) (by kernel_rfl) (by kernel_rfl) rfl (wants_none rfl) rfl (sq_index 0 Try.underlying64 ti_2 rfl rfl rfl hy256) (fun q257 => ?_)
                          refine JP_sq (i := 13) [] rfl (by kernel_rfl) (by kernel_rfl) (by kernel_rfl) rfl (wants_none rfl) rfl (sq_load_pt_o 0 (opens_int _) ti_2 rfl rfl) (fun _ => ?_)
                          refine JP_take (i := 14) [0, 1, 2, 3, 4, 5, 6, 7, 8, 9, 10, 11, 12, 13, 14, 15, 16, 17, 18] [] rfl (by kernel_rfl) (by kernel_rfl) (by kernel_rfl) rfl rfl (wants_none rfl) rfl (ex_assign rfl) ?_
                          refine JP_go [] [] rfl rfl rfl (fun _ _ _ => ?_)
                          refine JD_done (by kernel_rfl) ?_
                          refine N_then ?_
                          refine J_seq ?_
                          refine J_block ?_
                          refine J_seq ?_
                          refine J_cut' (S' := Bool) (G' := Unit) (fun s259 _ => [(0, .pointer (some ⟨b27, 0, none⟩)), (2, .int .i64 s62.2.2.2), (4, .pointer (some ⟨b79, 0, none⟩)), (6, .pointer (some ⟨b80, 0, none⟩)), (7, .pointer (some ⟨b81, 0, none⟩)), (8, .int .i64 y255), (81, .bool s259)]) (fun s259 _ => [.fz w29 C34, .fz w9 C12, .rd v0_0 p0.Rules, mpf Greading.enc (Value.int .i64) b14 s15.1, .bx b27 85 [.int .i64 p0.Tapes, .int .i64 p0.Symbols, .int .i64 p0.States, v0_0, .map (some b14)], .bx b79 55 [.int .i64 y70.kind, .int .i64 y70.at_, .int .i64 y70.tape, .int .i64 y70.count, .int .i64 y70.found_0, .int .i64 y70.found_1, .int .i64 y70.found_2, .int .i64 y70.done], .bx b80 107 [.int .i64 0, .int .i64 0, .int .i64 0, .int .i64 0, .int .i64 0, .int .i64 0, .int .i64 0, .int .i64 0, .int .i64 0, .int .i64 0, .bool false], .bx b81 55 [.int .i64 y70.kind, .int .i64 y70.at_, .int .i64 y70.tape, .int .i64 (w64 (y70.count - 1)), .int .i64 y70.found_0, .int .i64 y70.found_1, .int .i64 y70.found_2, .int .i64 y70.done], .bx b2 28 [.int .i64 0, .int .i64 0, .slice none 0 0], .bx b7 33 [.int .i64 p0.Tapes, .int .i64 p0.Symbols, .int .i64 p0.States, v0_0], .ow 91 g63_0 s62.1, .ow 55 (.slice (some ⟨b72, 0, none⟩) s62.2.1.length cap73) s62.2.1, mpf GmultiPlace.enc (Value.int .i64) b36 s62.2.2.1, .bx b37 80 [.int .i64 (w64 (2 * p0.Symbols)), .int .i64 0, g63_0, (.slice (some ⟨b72, 0, none⟩) s62.2.1.length cap73), .map (some b36)], .bx b67 91 [.int .i64 r65.Write, .int .i64 r65.Move, .int .i64 r65.Next]]) ?_ (fun s259 g260 => ?_)
                          · refine J_region ?_
                            refine JL_q (wants_none rfl) rfl (ex_fieldAddr fi_55_0 rfl rfl) ?_
                            refine JL_q (wants_none rfl) rfl (ex_load_bx 6 ti_2 rfl rfl rfl) ?_
                            refine JL_q (wants_none rfl) rfl (ex_eql rfl rfl) ?_
                            refine JL_q (wants_none rfl) rfl (ex_move rfl) ?_
                            refine JL_cond (fun h261 => ?_) (fun h261 => ?_)
                            · refine JL_q (wants_some rfl rfl rfl h261) rfl (ex_fieldAddr fi_55_3 rfl rfl) ?_
                              refine JL_q (wants_some rfl rfl rfl h261) rfl (ex_load_bx 6 ti_2 rfl rfl rfl) ?_
                              refine JL_q (wants_some rfl rfl rfl h261) rfl (ex_gtr rfl rfl) ?_
                              refine JL_q (wants_none rfl) rfl (ex_pick_true rfl h261 rfl) ?_
                              refine JL_q (wants_none rfl) rfl (ex_assign rfl) ?_
                              refine JL_nil ?_
                              exact N_meet' () ⟨rfl, rfl, rfl, rfl, rfl, rfl, rfl, trivial⟩ [8, 9, 10, 11, 12, 6, 5, 4, 17, 18, 13, 14, 15, 16, 7] rfl rfl
                            · refine JL_passed rfl rfl rfl h261 ?_
                              refine JL_passed rfl rfl rfl h261 ?_
                              refine JL_passed rfl rfl rfl h261 ?_
                              refine JL_q (wants_none rfl) rfl (ex_pick_false rfl h261 rfl) ?_
                              refine JL_q (wants_none rfl) rfl (ex_assign rfl) ?_
                              refine JL_nil ?_
                              exact N_meet' () ⟨rfl, rfl, rfl, rfl, rfl, rfl, rfl, trivial⟩ [8, 9, 10, 11, 12, 6, 5, 4, 17, 18, 13, 14, 15, 16, 7] rfl rfl
                          · refine N_then ?_
                            refine J_if rfl (fun h262 => ?_) (fun h262 => ?_)
                            · refine J_seq ?_
                              refine J_region ?_
                              refine JL_q (wants_none rfl) rfl (ex_move rfl) ?_
                              refine JL_q (wants_none rfl) rfl (ex_move rfl) ?_
                              refine JL_q (wants_none rfl) rfl (ex_load_bx_agg 7 ti_55 rfl rfl rfl rfl) ?_
                              refine JL_q (wants_none rfl) rfl (ex_buildN [(0, .int .i64 s62.2.2.2, [.int .i64 s62.2.2.2]), (1, .int .i64 y255, [.int .i64 y255]), (2, .agg #[.int .i64 y70.kind, .int .i64 y70.at_, .int .i64 y70.tape, .int .i64 (w64 (y70.count - 1)), .int .i64 y70.found_0, .int .i64 y70.found_1, .int .i64 y70.found_2, .int .i64 y70.done], [.int .i64 y70.kind, .int .i64 y70.at_, .int .i64 y70.tape, .int .i64 (w64 (y70.count - 1)), .int .i64 y70.found_0, .int .i64 y70.found_1, .int .i64 y70.found_2, .int .i64 y70.done])] si_107 rfl (.cons fi_107_0 rfl rfl rfl (.cons fi_107_1 rfl rfl rfl (.cons fi_107_2 rfl rfl rfl .nil))) (fun w hh => ⟨cv_int, cv_int, (cv_aggs ⟨cv_int, cv_int, cv_int, cv_int, cv_int, cv_int, cv_int, cv_int, trivial⟩), trivial⟩)) ?_
                              refine JL_sk (wants_none rfl) (sk_store_bx' 6 ti_107 rfl rfl (fun w hh => (cv_aggs ⟨cv_int, cv_int, cv_int, cv_int, cv_int, cv_int, cv_int, cv_int, cv_int, cv_int, cv_bool, trivial⟩)) rfl rfl rfl rfl) ?_
                              refine JL_nil ?_
                              refine N_then ?_
                              refine J_ret ?_
                              refine N_block_ret ?_
                              refine N_then_ret ?_
                              exact N_inlJ1 hJ78 () rfl (rv_cell 6 rfl rfl ti_107 rfl) rfl [0, 1, 2, 3, 4, 10, 11, 12, 13, 14, 8, 9] rfl rfl
                            · refine J_seq ?_
                              refine J_region ?_
                              refine JL_q (wants_none rfl) rfl (ex_fieldAddr fi_55_0 rfl rfl) ?_
                              refine JL_q (wants_none rfl) rfl (ex_load_bx 5 ti_2 rfl rfl rfl) ?_
                              refine JL_q (wants_none rfl) rfl (ex_eql rfl rfl) ?_
                              refine JL_q (wants_none rfl) rfl (ex_assign rfl) ?_
                              refine JL_nil ?_
                              refine N_then ?_
                              refine J_if rfl (fun h263 => ?_) (fun h263 => ?_)
                              · refine J_seq ?_
                                refine J_draw [7] (by kernel_rfl) ?_
                                refine JP_take (i := 0) [0, 1, 2, 3, 4, 5, 6, 8, 9, 10, 11, 12, 13, 14] [7] rfl (by kernel_rfl) (by kernel_rfl) (by kernel_rfl) rfl rfl (wants_none rfl) rfl (ex_move rfl) ?_
                                refine JP_take (i := 1) [0, 1, 2, 3, 4, 5, 6, 8, 9, 10, 11, 12, 13, 14] [7] rfl (by kernel_rfl) (by kernel_rfl) (by kernel_rfl) rfl rfl (wants_none rfl) rfl (ex_nilCheck rfl) ?_
                                refine JP_take (i := 2) [0, 1, 2, 3, 4, 5, 6, 8, 9, 10, 11, 12, 13, 14] [7] rfl (by kernel_rfl) (by kernel_rfl) (by kernel_rfl) rfl rfl (wants_none rfl) rfl (ex_fieldAddr fi_85_0 rfl rfl) ?_
                                refine JP_take (i := 3) [0, 1, 2, 3, 4, 5, 6, 8, 9, 10, 11, 12, 13, 14] [7] rfl (by kernel_rfl) (by kernel_rfl) (by kernel_rfl) rfl rfl (wants_none rfl) rfl (ex_fieldAddr fi_33_0 rfl rfl) ?_
                                refine JP_take (i := 4) [0, 1, 2, 3, 4, 5, 6, 8, 9, 10, 11, 12, 13, 14] [7] rfl (by kernel_rfl) (by kernel_rfl) (by kernel_rfl) rfl rfl (wants_none rfl) rfl (ex_load_bx 4 ti_2 rfl rfl rfl) ?_
                                refine JP_take (i := 5) [0, 1, 2, 3, 4, 5, 6, 8, 9, 10, 11, 12, 13, 14] [7] rfl (by kernel_rfl) (by kernel_rfl) (by kernel_rfl) rfl rfl (wants_none rfl) rfl (ex_sub rfl rfl) ?_
                                refine JP_take (i := 6) [0, 1, 2, 3, 4, 5, 6, 8, 9, 10, 11, 12, 13, 14] [7] rfl (by kernel_rfl) (by kernel_rfl) (by kernel_rfl) rfl rfl (wants_none rfl) rfl (ex_fieldAddr fi_55_0 rfl rfl) ?_
                                refine JP_go [0, 1, 2, 3, 4, 5, 6, 8, 9, 10, 11, 12, 13, 14] [7] rfl rfl rfl (fun w265 h1_266 hp264 => ?_)
                                refine JD_one (i := 7) (by kernel_rfl) ?_
                                refine JO_sk rfl (wants_none rfl) (sk_store_bx' 7 ti_2 rfl rfl (fun w hh => cv_int) rfl rfl rfl rfl) (sub_bx 0 rfl) ?_
                                refine JD_take (i := 8) hp264 rfl (by kernel_rfl) (by kernel_rfl) (by kernel_rfl) (wants_none rfl) rfl (ex_fieldAddr fi_55_3 rfl rfl) ?_
                                refine JD_one (i := 9) (by kernel_rfl) ?_
                                refine JO_sk rfl (wants_none rfl) (sk_store_bx' 7 ti_2 rfl rfl (fun w hh => cv_int) rfl rfl rfl rfl) (sub_bx 0 rfl) ?_
                                refine JD_done (by kernel_rfl) ?_
                                refine N_then ?_
                                refine J_seq ?_
                                refine J_draw [6] (by kernel_rfl) ?_
                                refine JP_take (i := 0) [0, 1, 2, 3, 4, 5, 7, 8, 9, 10, 11, 12, 13, 14] [6] rfl (by kernel_rfl) (by kernel_rfl) (by kernel_rfl) rfl rfl (wants_none rfl) rfl (ex_move rfl) ?_
                                refine JP_take (i := 1) [0, 1, 2, 3, 4, 5, 7, 8, 9, 10, 11, 12, 13, 14] [6] rfl (by kernel_rfl) (by kernel_rfl) (by kernel_rfl) rfl rfl (wants_none rfl) rfl (ex_move rfl) ?_
                                refine JP_take (i := 2) [0, 1, 2, 3, 4, 5, 7, 8, 9, 10, 11, 12, 13, 14] [6] rfl (by kernel_rfl) (by kernel_rfl) (by kernel_rfl) rfl rfl (wants_none rfl) rfl (ex_nilCheck rfl) ?_
                                refine JP_take (i := 3) [0, 1, 2, 3, 4, 5, 7, 8, 9, 10, 11, 12, 13, 14] [6] rfl (by kernel_rfl) (by kernel_rfl) (by kernel_rfl) rfl rfl (wants_none rfl) rfl (ex_fieldAddr fi_85_0 rfl rfl) ?_
                                refine JP_take (i := 4) [0, 1, 2, 3, 4, 5, 7, 8, 9, 10, 11, 12, 13, 14] [6] rfl (by kernel_rfl) (by kernel_rfl) (by kernel_rfl) rfl rfl (wants_none rfl) rfl (ex_fieldAddr fi_33_1 rfl rfl) ?_
                                refine JP_take (i := 5) [0, 1, 2, 3, 4, 5, 7, 8, 9, 10, 11, 12, 13, 14] [6] rfl (by kernel_rfl) (by kernel_rfl) (by kernel_rfl) rfl rfl (wants_none rfl) rfl (ex_load_bx 4 ti_2 rfl rfl rfl) ?_
                                refine JP_bnd fun u267 hu268 => ?_
                                refine JP_take (i := 6) [0, 1, 2, 3, 4, 5, 7, 8, 9, 10, 11, 12, 13, 14] [6] rfl (by kernel_rfl) (by kernel_rfl) (by kernel_rfl) rfl rfl (wants_none rfl) rfl (ex_rem rfl rfl (nz_ne hu268)) ?_
                                refine JP_take (i := 7) [0, 1, 2, 3, 4, 5, 7, 8, 9, 10, 11, 12, 13, 14] [6] rfl (by kernel_rfl) (by kernel_rfl) (by kernel_rfl) rfl rfl (wants_none rfl) rfl (ex_move rfl) ?_
                                refine JP_take (i := 8) [0, 1, 2, 3, 4, 5, 7, 8, 9, 10, 11, 12, 13, 14] [6] rfl (by kernel_rfl) (by kernel_rfl) (by kernel_rfl) rfl rfl (wants_none rfl) rfl (ex_nilCheck rfl) ?_
                                refine JP_take (i := 9) [0, 1, 2, 3, 4, 5, 7, 8, 9, 10, 11, 12, 13, 14] [6] rfl (by kernel_rfl) (by kernel_rfl) (by kernel_rfl) rfl rfl (wants_none rfl) rfl (ex_fieldAddr fi_85_0 rfl rfl) ?_
                                refine JP_take (i := 10) [0, 1, 2, 3, 4, 5, 7, 8, 9, 10, 11, 12, 13, 14] [6] rfl (by kernel_rfl) (by kernel_rfl) (by kernel_rfl) rfl rfl (wants_none rfl) rfl (ex_fieldAddr fi_33_1 rfl rfl) ?_
                                refine JP_take (i := 11) [0, 1, 2, 3, 4, 5, 7, 8, 9, 10, 11, 12, 13, 14] [6] rfl (by kernel_rfl) (by kernel_rfl) (by kernel_rfl) rfl rfl (wants_none rfl) rfl (ex_load_bx 4 ti_2 rfl rfl rfl) ?_
                                refine JP_take (i := 12) [0, 1, 2, 3, 4, 5, 7, 8, 9, 10, 11, 12, 13, 14] [6] rfl (by kernel_rfl) (by kernel_rfl) (by kernel_rfl) rfl rfl (wants_none rfl) rfl (ex_add rfl rfl) ?_
                                refine JP_take (i := 13) [0, 1, 2, 3, 4, 5, 7, 8, 9, 10, 11, 12, 13, 14] [6] rfl (by kernel_rfl) (by kernel_rfl) (by kernel_rfl) rfl rfl (wants_none rfl) rfl (ex_move rfl) ?_
                                refine JP_take (i := 14) [0, 1, 2, 3, 4, 5, 7, 8, 9, 10, 11, 12, 13, 14] [6] rfl (by kernel_rfl) (by kernel_rfl) (by kernel_rfl) rfl rfl (wants_none rfl) rfl (ex_neg rfl) ?_
                                refine JP_take (i := 15) [0, 1, 2, 3, 4, 5, 7, 8, 9, 10, 11, 12, 13, 14] [6] rfl (by kernel_rfl) (by kernel_rfl) (by kernel_rfl) rfl rfl (wants_none rfl) rfl (ex_load_bx_agg 6 ti_55 rfl rfl rfl rfl) ?_
                                refine JP_take (i := 16) [0, 1, 2, 3, 4, 5, 7, 8, 9, 10, 11, 12, 13, 14] [6] rfl (by kernel_rfl) (by kernel_rfl) (by kernel_rfl) rfl rfl (wants_none rfl) rfl (ex_buildN [(0, .int .i64 (w64 ((Int.tmod s62.2.2.2 p0.Symbols) + p0.Symbols)), [.int .i64 (w64 ((Int.tmod s62.2.2.2 p0.Symbols) + p0.Symbols))]), (1, .int .i64 (w64 (0 - y255)), [.int .i64 (w64 (0 - y255))]), (2, .agg #[.int .i64 2, .int .i64 y70.at_, .int .i64 y70.tape, .int .i64 (w64 (p0.Tapes - 1)), .int .i64 y70.found_0, .int .i64 y70.found_1, .int .i64 y70.found_2, .int .i64 y70.done], [.int .i64 2, .int .i64 y70.at_, .int .i64 y70.tape, .int .i64 (w64 (p0.Tapes - 1)), .int .i64 y70.found_0, .int .i64 y70.found_1, .int .i64 y70.found_2, .int .i64 y70.done])] si_107 rfl (.cons fi_107_0 rfl rfl rfl (.cons fi_107_1 rfl rfl rfl (.cons fi_107_2 rfl rfl rfl .nil))) (fun w hh => ⟨cv_int, cv_int, (cv_aggs ⟨cv_int, cv_int, cv_int, cv_int, cv_int, cv_int, cv_int, cv_int, trivial⟩), trivial⟩)) ?_
                                refine JP_go [0, 1, 2, 3, 4, 5, 7, 8, 9, 10, 11, 12, 13, 14] [6] rfl rfl rfl (fun w270 h1_271 hp269 => ?_)
                                refine JD_one (i := 17) (by kernel_rfl) ?_
                                refine JO_sk rfl (wants_none rfl) (sk_store_bx' 6 ti_107 rfl rfl (fun w hh => (cv_aggs ⟨cv_int, cv_int, cv_int, cv_int, cv_int, cv_int, cv_int, cv_int, cv_int, cv_int, cv_bool, trivial⟩)) rfl rfl rfl rfl) (sub_bx 0 rfl) ?_
                                refine JD_done (by kernel_rfl) ?_
                                refine N_then ?_
                                refine J_ret ?_
                                refine N_block_ret ?_
                                refine N_then_ret ?_
                                exact N_inlJ1 hJ78 () rfl (rv_cell 6 rfl rfl ti_107 rfl) rfl [0, 1, 2, 3, 4, 10, 11, 12, 13, 14, 8, 9] rfl rfl
                              · refine J_seq ?_
                                refine J_region ?_
                                refine JL_q (wants_none rfl) rfl (ex_fieldAddr fi_55_3 rfl rfl) ?_
                                refine JL_q (wants_none rfl) rfl (ex_load_bx 5 ti_2 rfl rfl rfl) ?_
                                refine JL_q (wants_none rfl) rfl (ex_gtr rfl rfl) ?_
                                refine JL_q (wants_none rfl) rfl (ex_assign rfl) ?_
                                refine JL_nil ?_
                                refine N_then ?_
                                refine J_if rfl (fun h272 => ?_) (fun h272 => ?_)
                                · refine J_seq ?_
                                  refine J_region ?_
                                  refine JL_q (wants_none rfl) rfl (ex_move rfl) ?_
                                  refine JL_q (wants_none rfl) rfl (ex_move rfl) ?_
                                  refine JL_q (wants_none rfl) rfl (ex_neg rfl) ?_
                                  refine JL_q (wants_none rfl) rfl (ex_load_bx_agg 7 ti_55 rfl rfl rfl rfl) ?_
                                  refine JL_q (wants_none rfl) rfl (ex_buildN [(0, .int .i64 s62.2.2.2, [.int .i64 s62.2.2.2]), (1, .int .i64 (w64 (0 - y255)), [.int .i64 (w64 (0 - y255))]), (2, .agg #[.int .i64 y70.kind, .int .i64 y70.at_, .int .i64 y70.tape, .int .i64 (w64 (y70.count - 1)), .int .i64 y70.found_0, .int .i64 y70.found_1, .int .i64 y70.found_2, .int .i64 y70.done], [.int .i64 y70.kind, .int .i64 y70.at_, .int .i64 y70.tape, .int .i64 (w64 (y70.count - 1)), .int .i64 y70.found_0, .int .i64 y70.found_1, .int .i64 y70.found_2, .int .i64 y70.done])] si_107 rfl (.cons fi_107_0 rfl rfl rfl (.cons fi_107_1 rfl rfl rfl (.cons fi_107_2 rfl rfl rfl .nil))) (fun w hh => ⟨cv_int, cv_int, (cv_aggs ⟨cv_int, cv_int, cv_int, cv_int, cv_int, cv_int, cv_int, cv_int, trivial⟩), trivial⟩)) ?_
                                  refine JL_sk (wants_none rfl) (sk_store_bx' 6 ti_107 rfl rfl (fun w hh => (cv_aggs ⟨cv_int, cv_int, cv_int, cv_int, cv_int, cv_int, cv_int, cv_int, cv_int, cv_int, cv_bool, trivial⟩)) rfl rfl rfl rfl) ?_
                                  refine JL_nil ?_
                                  refine N_then ?_
                                  refine J_ret ?_
                                  refine N_block_ret ?_
                                  refine N_then_ret ?_
                                  exact N_inlJ1 hJ78 () rfl (rv_cell 6 rfl rfl ti_107 rfl) rfl [0, 1, 2, 3, 4, 10, 11, 12, 13, 14, 8, 9] rfl rfl
                                · refine J_skip ?_
                                  refine N_block ?_
                                  refine N_then ?_
                                  refine J_seq ?_
                                  refine J_region ?_
                                  refine JL_q (wants_none rfl) rfl (ex_move rfl) ?_
                                  refine JL_q (wants_none rfl) rfl (ex_move rfl) ?_
                                  refine JL_q (wants_none rfl) rfl (ex_fieldAddr fi_55_1 rfl rfl) ?_
                                  refine JL_q (wants_none rfl) rfl (ex_load_bx 5 ti_2 rfl rfl rfl) ?_
                                  refine JL_q (wants_none rfl) rfl (ex_fieldAddr fi_55_2 rfl rfl) ?_
                                  refine JL_q (wants_none rfl) rfl (ex_load_bx 5 ti_2 rfl rfl rfl) ?_
                                  refine JL_q (wants_none rfl) rfl (ex_fieldAddr fi_55_5 rfl rfl) ?_
                                  refine JL_q (wants_none rfl) rfl (ex_load_bx 5 ti_2 rfl rfl rfl) ?_
                                  refine JL_inline (wants_none rfl) rfl Try.call58 rfl Try.func58 rfl Try.ntmps58 rfl rfl (fun K_ hK273 => ?_)
                                  refine J_inlJ (S := Int × Int × Int × Int × Int × Int × Int × Int) (G := Unit) (fun s274 _ => .agg #[.int .i64 s274.1, .int .i64 s274.2.1, .int .i64 s274.2.2.1, .int .i64 s274.2.2.2.1, .int .i64 s274.2.2.2.2.1, .int .i64 s274.2.2.2.2.2.1, .int .i64 s274.2.2.2.2.2.2.1, .int .i64 s274.2.2.2.2.2.2.2]) (fun s274 _ => [.fz w29 C34, .fz w9 C12, .bx b80 107 [.int .i64 0, .int .i64 0, .int .i64 0, .int .i64 0, .int .i64 0, .int .i64 0, .int .i64 0, .int .i64 0, .int .i64 0, .int .i64 0, .bool false], .bx b2 28 [.int .i64 0, .int .i64 0, .slice none 0 0], .rd v0_0 p0.Rules, mpf Greading.enc (Value.int .i64) b14 s15.1, .bx b27 85 [.int .i64 p0.Tapes, .int .i64 p0.Symbols, .int .i64 p0.States, v0_0, .map (some b14)], .bx b7 33 [.int .i64 p0.Tapes, .int .i64 p0.Symbols, .int .i64 p0.States, v0_0], .ow 91 g63_0 s62.1, .ow 55 (.slice (some ⟨b72, 0, none⟩) s62.2.1.length cap73) s62.2.1, mpf GmultiPlace.enc (Value.int .i64) b36 s62.2.2.1, .bx b37 80 [.int .i64 (w64 (2 * p0.Symbols)), .int .i64 0, g63_0, (.slice (some ⟨b72, 0, none⟩) s62.2.1.length cap73), .map (some b36)], .bx b67 91 [.int .i64 r65.Write, .int .i64 r65.Move, .int .i64 r65.Next]]) hK273 (fun K_ hJ276 => ?_) (fun s274 g275 => ?_)
                                  · unfold F_impl_OneTapeMachine_L9
                                    refine J_seq ?_
                                    refine J_region ?_
                                    refine JL_st (wants_none rfl) rfl (st_alloc zi_55 rfl) (fun b277 => ?_)
                                    refine JL_nil ?_
                                    refine N_then ?_
                                    refine J_seq ?_
                                    refine J_seq ?_
                                    refine J_region ?_
                                    refine JL_q (wants_none rfl) rfl (ex_move rfl) ?_
                                    refine JL_q (wants_none rfl) rfl (ex_move rfl) ?_
                                    refine JL_q (wants_none rfl) rfl (ex_nilCheck rfl) ?_
                                    refine JL_q (wants_none rfl) rfl (ex_fieldAddr fi_85_0 rfl rfl) ?_
                                    refine JL_q (wants_none rfl) rfl (ex_fieldAddr fi_33_0 rfl rfl) ?_
                                    refine JL_q (wants_none rfl) rfl (ex_load_bx 5 ti_2 rfl rfl rfl) ?_
                                    refine JL_bnd fun u278 hu279 => ?_
                                    refine JL_q (wants_none rfl) rfl (ex_shl rfl rfl (nneg_le hu279)) ?_
                                    refine JL_q (wants_none rfl) rfl (ex_sub rfl rfl) ?_
                                    refine JL_q (wants_none rfl) rfl (ex_eql rfl rfl) ?_
                                    refine JL_nil ?_
                                    refine N_then ?_
                                    refine J_if rfl (fun h280 => ?_) (fun h280 => ?_)
                                    · refine J_seq ?_
                                      refine J_draw [0] (by kernel_rfl) ?_
                                      refine JP_take (i := 0) [1, 2, 3, 4, 5, 6, 7, 8, 9, 10, 11, 12, 13, 14, 15] [0] rfl (by kernel_rfl) (by kernel_rfl) (by kernel_rfl) rfl rfl (wants_none rfl) rfl (ex_move rfl) ?_
                                      refine JP_take (i := 1) [1, 2, 3, 4, 5, 6, 7, 8, 9, 10, 11, 12, 13, 14, 15] [0] rfl (by kernel_rfl) (by kernel_rfl) (by kernel_rfl) rfl rfl (wants_none rfl) rfl (ex_nilCheck rfl) ?_
                                      refine JP_take (i := 2) [1, 2, 3, 4, 5, 6, 7, 8, 9, 10, 11, 12, 13, 14, 15] [0] rfl (by kernel_rfl) (by kernel_rfl) (by kernel_rfl) rfl rfl (wants_none rfl) rfl (ex_fieldAddr fi_85_0 rfl rfl) ?_
                                      refine JP_take (i := 3) [1, 2, 3, 4, 5, 6, 7, 8, 9, 10, 11, 12, 13, 14, 15] [0] rfl (by kernel_rfl) (by kernel_rfl) (by kernel_rfl) rfl rfl (wants_none rfl) rfl (ex_fieldAddr fi_33_3 rfl rfl) ?_
                                      refine JP_take (i := 4) [1, 2, 3, 4, 5, 6, 7, 8, 9, 10, 11, 12, 13, 14, 15] [0] rfl (by kernel_rfl) (by kernel_rfl) (by kernel_rfl) rfl rfl (wants_none rfl) rfl (ex_load_bx 4 ti_31 rfl rfl rfl) ?_
                                      refine JP_take (i := 5) [1, 2, 3, 4, 5, 6, 7, 8, 9, 10, 11, 12, 13, 14, 15] [0] rfl (by kernel_rfl) (by kernel_rfl) (by kernel_rfl) rfl rfl (wants_none rfl) rfl (ex_move rfl) ?_
                                      refine JP_bnd fun y281 hy282 => ?_
                                      refine JP_sq (i := 6) [0] rfl (by kernel_rfl) (by kernel_rfl) (by kernel_rfl) rfl (wants_none rfl) rfl (sq_index 3 Try.underlying31 ti_69 rfl rfl rfl hy282) (fun q283 => ?_)
                                      refine JP_sq (i := 7) [1] rfl (by kernel_rfl) (by kernel_rfl) (by kernel_rfl) rfl (wants_none rfl) rfl (sq_field_pt 0 (GMultiRule.at_Next _) fi_69_4 rfl rfl rfl) (fun q284 => ?_)
                                      refine JP_sq (i := 8) [2] rfl (by kernel_rfl) (by kernel_rfl) (by kernel_rfl) rfl (wants_none rfl) rfl (sq_load_pt_o 0 (opens_int _) ti_2 rfl rfl) (fun _ => ?_)
                                      refine JP_take (i := 9) [0, 1, 3, 4, 5, 6, 7, 8, 9, 10, 11, 12, 13, 14, 15, 16, 17] [2] rfl (by kernel_rfl) (by kernel_rfl) (by kernel_rfl) rfl rfl (wants_none rfl) rfl (ex_move rfl) ?_
                                      refine JP_take (i := 10) [0, 1, 3, 4, 5, 6, 7, 8, 9, 10, 11, 12, 13, 14, 15, 16, 17] [2] rfl (by kernel_rfl) (by kernel_rfl) (by kernel_rfl) rfl rfl (wants_none rfl) rfl (ex_move rfl) ?_
                                      refine JP_take (i := 11) [0, 1, 3, 4, 5, 6, 7, 8, 9, 10, 11, 12, 13, 14, 15, 16, 17] [2] rfl (by kernel_rfl) (by kernel_rfl) (by kernel_rfl) rfl rfl (wants_none rfl) rfl (ex_nilCheck rfl) ?_
                                      refine JP_take (i := 12) [0, 1, 3, 4, 5, 6, 7, 8, 9, 10, 11, 12, 13, 14, 15, 16, 17] [2] rfl (by kernel_rfl) (by kernel_rfl) (by kernel_rfl) rfl rfl (wants_none rfl) rfl (ex_fieldAddr fi_85_0 rfl rfl) ?_
                                      refine JP_take (i := 13) [0, 1, 3, 4, 5, 6, 7, 8, 9, 10, 11, 12, 13, 14, 15, 16, 17] [2] rfl (by kernel_rfl) (by kernel_rfl) (by kernel_rfl) rfl rfl (wants_none rfl) rfl (ex_fieldAddr fi_33_0 rfl rfl) ?_
                                      refine JP_take (i := 14) [0, 1, 3, 4, 5, 6, 7, 8, 9, 10, 11, 12, 13, 14, 15, 16, 17] [2] rfl (by kernel_rfl) (by kernel_rfl) (by kernel_rfl) rfl rfl (wants_none rfl) rfl (ex_load_bx 6 ti_2 rfl rfl rfl) ?_
                                      refine JP_take (i := 15) [0, 1, 3, 4, 5, 6, 7, 8, 9, 10, 11, 12, 13, 14, 15, 16, 17] [2] rfl (by kernel_rfl) (by kernel_rfl) (by kernel_rfl) rfl rfl (wants_none rfl) rfl (ex_add rfl rfl) ?_
                                      refine JP_take (i := 16) [0, 1, 3, 4, 5, 6, 7, 8, 9, 10, 11, 12, 13, 14, 15, 16, 17] [2] rfl (by kernel_rfl) (by kernel_rfl) (by kernel_rfl) rfl rfl (wants_none rfl) rfl (ex_sub rfl rfl) ?_
                                      refine JP_go [0, 1, 3, 4, 5, 6, 7, 8, 9, 10, 11, 12, 13, 14, 15, 16, 17] [2] rfl rfl rfl (fun w287 h1_288 hp286 => ?_)
                                      refine JD_bnd fun r289 hr290 => ?_
                                      refine JD_one (i := 17) (by kernel_rfl) ?_
                                      refine JO_call rfl (wants_none rfl) rfl Try.call55 rfl (Ca_of0 fun w hh => c_impl_leave _ w (fun _ hk => hk.elim) _ _ _ hr290) (fun _ => ?_)
                                      refine JD_one (i := 18) (by kernel_rfl) ?_
                                      refine JO_sk rfl (wants_none rfl) (sk_store_bx' 2 ti_55 rfl rfl (fun w hh => (cv_aggs ⟨cv_int, cv_int, cv_int, cv_int, cv_int, cv_int, cv_int, cv_int, trivial⟩)) rfl rfl rfl rfl) (sub_bx 0 rfl) ?_
                                      refine JD_done (by kernel_rfl) ?_
                                      refine N_then ?_
                                      refine J_ret ?_
                                      refine N_then_ret ?_
                                      exact N_inlJ1 hJ276 () rfl (rv_cell 2 rfl rfl ti_55 rfl) rfl [3, 4, 9, 11, 5, 6, 7, 12, 13, 14, 15, 16, 17] rfl rfl
                                    · refine J_skip ?_
                                      refine N_then ?_
                                      refine J_seq ?_
                                      refine J_region ?_
                                      refine JL_q (wants_none rfl) rfl (ex_move rfl) ?_
                                      refine JL_q (wants_none rfl) rfl (ex_move rfl) ?_
                                      refine JL_q (wants_none rfl) rfl (ex_move rfl) ?_
                                      refine JL_inline (wants_none rfl) rfl Try.call57 rfl Try.func57 rfl Try.ntmps57 rfl rfl (fun K_ hK291 => ?_)
                                      refine J_seq ?_
                                      refine J_region ?_
                                      refine JL_q (wants_none rfl) rfl (ex_assign rfl) ?_
                                      refine JL_nil ?_
                                      refine N_then ?_
                                      refine J_seq ?_
                                      refine J_draw [] (by kernel_rfl) ?_
                                      refine JP_take (i := 0) [0, 1, 2, 3, 4, 5, 6, 7, 8, 9, 10, 11, 12, 13, 14, 15] [] rfl (by kernel_rfl) (by kernel_rfl) (by kernel_rfl) rfl rfl (wants_none rfl) rfl (ex_move rfl) ?_
                                      refine JP_take (i := 1) [0, 1, 2, 3, 4, 5, 6, 7, 8, 9, 10, 11, 12, 13, 14, 15] [] rfl (by kernel_rfl) (by kernel_rfl) (by kernel_rfl) rfl rfl (wants_none rfl) rfl (ex_move rfl) ?_
                                      refine JP_take (i := 2) [0, 1, 2, 3, 4, 5, 6, 7, 8, 9, 10, 11, 12, 13, 14, 15] [] rfl (by kernel_rfl) (by kernel_rfl) (by kernel_rfl) rfl rfl (wants_none rfl) rfl (ex_nilCheck rfl) ?_
                                      refine JP_take (i := 3) [0, 1, 2, 3, 4, 5, 6, 7, 8, 9, 10, 11, 12, 13, 14, 15] [] rfl (by kernel_rfl) (by kernel_rfl) (by kernel_rfl) rfl rfl (wants_none rfl) rfl (ex_fieldAddr fi_85_0 rfl rfl) ?_
                                      refine JP_take (i := 4) [0, 1, 2, 3, 4, 5, 6, 7, 8, 9, 10, 11, 12, 13, 14, 15] [] rfl (by kernel_rfl) (by kernel_rfl) (by kernel_rfl) rfl rfl (wants_none rfl) rfl (ex_fieldAddr fi_33_0 rfl rfl) ?_
                                      refine JP_take (i := 5) [0, 1, 2, 3, 4, 5, 6, 7, 8, 9, 10, 11, 12, 13, 14, 15] [] rfl (by kernel_rfl) (by kernel_rfl) (by kernel_rfl) rfl rfl (wants_none rfl) rfl (ex_load_bx 5 ti_2 rfl rfl rfl) ?_
                                      refine JP_take (i := 6) [0, 1, 2, 3, 4, 5, 6, 7, 8, 9, 10, 11, 12, 13, 14, 15] [] rfl (by kernel_rfl) (by kernel_rfl) (by kernel_rfl) rfl rfl (wants_none rfl) rfl (ex_add rfl rfl) ?_
                                      refine JP_take (i := 7) [0, 1, 2, 3, 4, 5, 6, 7, 8, 9, 10, 11, 12, 13, 14, 15] [] rfl (by kernel_rfl) (by kernel_rfl) (by kernel_rfl) rfl rfl (wants_none rfl) rfl (ex_sub rfl rfl) ?_
                                      refine JP_take (i := 8) [0, 1, 2, 3, 4, 5, 6, 7, 8, 9, 10, 11, 12, 13, 14, 15] [] rfl (by kernel_rfl) (by kernel_rfl) (by kernel_rfl) rfl rfl (wants_none rfl) rfl (ex_move rfl) ?_
                                      refine JP_take (i := 9) [0, 1, 2, 3, 4, 5, 6, 7, 8, 9, 10, 11, 12, 13, 14, 15] [] rfl (by kernel_rfl) (by kernel_rfl) (by kernel_rfl) rfl rfl (wants_none rfl) rfl (ex_nilCheck rfl) ?_
                                      refine JP_take (i := 10) [0, 1, 2, 3, 4, 5, 6, 7, 8, 9, 10, 11, 12, 13, 14, 15] [] rfl (by kernel_rfl) (by kernel_rfl) (by kernel_rfl) rfl rfl (wants_none rfl) rfl (ex_fieldAddr fi_85_0 rfl rfl) ?_
                                      refine JP_take (i := 11) [0, 1, 2, 3, 4, 5, 6, 7, 8, 9, 10, 11, 12, 13, 14, 15] [] rfl (by kernel_rfl) (by kernel_rfl) (by kernel_rfl) rfl rfl (wants_none rfl) rfl (ex_fieldAddr fi_33_0 rfl rfl) ?_
                                      refine JP_take (i := 12) [0, 1, 2, 3, 4, 5, 6, 7, 8, 9, 10, 11, 12, 13, 14, 15] [] rfl (by kernel_rfl) (by kernel_rfl) (by kernel_rfl) rfl rfl (wants_none rfl) rfl (ex_load_bx 5 ti_2 rfl rfl rfl) ?_
                                      refine JP_bnd fun u292 hu293 => ?_
                                      refine JP_take (i := 13) [0, 1, 2, 3, 4, 5, 6, 7, 8, 9, 10, 11, 12, 13, 14, 15] [] rfl (by kernel_rfl) (by kernel_rfl) (by kernel_rfl) rfl rfl (wants_none rfl) rfl (ex_rem rfl rfl (nz_ne hu293)) ?_
                                      refine JP_take (i := 14) [0, 1, 2, 3, 4, 5, 6, 7, 8, 9, 10, 11, 12, 13, 14, 15] [] rfl (by kernel_rfl) (by kernel_rfl) (by kernel_rfl) rfl rfl (wants_none rfl) rfl (ex_assign rfl) ?_
                                      refine JP_go [] [] rfl rfl rfl (fun _ _ _ => ?_)
                                      refine JD_done (by kernel_rfl) ?_
                                      refine N_then ?_
                                      refine J_ret ?_
                                      refine N_inl1 hK291 rfl (rv_tmp rfl) ?_
                                      refine JL_q (wants_none rfl) rfl (ex_move rfl) ?_
                                      refine JL_q (wants_none rfl) rfl (ex_build si_55 rfl (.cons fi_55_0 rfl rfl (.cons fi_55_1 rfl rfl (.cons fi_55_2 rfl rfl (.cons fi_55_5 rfl rfl .nil)))) (fun w hh => ⟨cv_int, cv_int, cv_int, cv_int, trivial⟩)) ?_
                                      refine JL_sk (wants_none rfl) (sk_store_bx' 0 ti_55 rfl rfl (fun w hh => (cv_aggs ⟨cv_int, cv_int, cv_int, cv_int, cv_int, cv_int, cv_int, cv_int, trivial⟩)) rfl rfl rfl rfl) ?_
                                      refine JL_nil ?_
                                      refine N_then ?_
                                      refine J_ret ?_
                                      exact N_inlJ1 hJ276 () rfl (rv_cell 0 rfl rfl ti_55 rfl) rfl [1, 2, 7, 9, 3, 4, 5, 10, 11, 12, 13, 14, 15] rfl rfl
                                  · refine JL_q (wants_none rfl) rfl (ex_buildN [(0, .int .i64 s62.2.2.2, [.int .i64 s62.2.2.2]), (1, .int .i64 (-1), [.int .i64 (-1)]), (2, .agg #[.int .i64 s274.1, .int .i64 s274.2.1, .int .i64 s274.2.2.1, .int .i64 s274.2.2.2.1, .int .i64 s274.2.2.2.2.1, .int .i64 s274.2.2.2.2.2.1, .int .i64 s274.2.2.2.2.2.2.1, .int .i64 s274.2.2.2.2.2.2.2], [.int .i64 s274.1, .int .i64 s274.2.1, .int .i64 s274.2.2.1, .int .i64 s274.2.2.2.1, .int .i64 s274.2.2.2.2.1, .int .i64 s274.2.2.2.2.2.1, .int .i64 s274.2.2.2.2.2.2.1, .int .i64 s274.2.2.2.2.2.2.2])] si_107 rfl (.cons fi_107_0 rfl rfl rfl (.cons fi_107_1 rfl rfl rfl (.cons fi_107_2 rfl rfl rfl .nil))) (fun w hh => ⟨cv_int, cv_int, (cv_aggs ⟨cv_int, cv_int, cv_int, cv_int, cv_int, cv_int, cv_int, cv_int, trivial⟩), trivial⟩)) ?_
                                    refine JL_sk (wants_none rfl) (sk_store_bx' 2 ti_107 rfl rfl (fun w hh => (cv_aggs ⟨cv_int, cv_int, cv_int, cv_int, cv_int, cv_int, cv_int, cv_int, cv_int, cv_int, cv_bool, trivial⟩)) rfl rfl rfl rfl) ?_
                                    refine JL_nil ?_
                                    refine N_then ?_
                                    refine J_ret ?_
                                    exact N_inlJ1 hJ78 () rfl (rv_cell 2 rfl rfl ti_107 rfl) rfl [0, 1, 4, 5, 6, 8, 9, 10, 11, 12, 3, 7] rfl rfl
                  · refine JL_st (wants_none rfl) rfl (st_alloc zi_107 rfl) (fun b294 => ?_)
                    refine JL_sk (wants_none rfl) (sk_store_bx' 0 ti_107 rfl rfl (fun w hh => (cv_aggs ⟨cv_int, cv_int, cv_int, cv_int, cv_int, cv_int, cv_int, cv_int, cv_int, cv_int, cv_bool, trivial⟩)) rfl rfl rfl rfl) ?_
                    refine JL_nil ?_
                    refine N_then ?_
                    refine J_seq ?_
                    refine J_region ?_
                    refine JL_q (wants_none rfl) rfl (ex_fieldAddr fi_107_3 rfl rfl) ?_
                    refine JL_q (wants_none rfl) rfl (ex_load_bx 0 ti_4 rfl rfl rfl) ?_
                    refine JL_q (wants_none rfl) rfl (ex_not rfl) ?_
                    refine JL_nil ?_
                    refine N_then ?_
                    refine J_if rfl (fun h295 => ?_) (fun h295 => ?_)
                    · refine J_draw [4, 6, 7, 8, 9, 10] (by kernel_rfl) ?_
                      refine JP_take (i := 0) [0, 1, 2, 3, 5, 11, 12] [4, 6, 7, 8, 9, 10] rfl (by kernel_rfl) (by kernel_rfl) (by kernel_rfl) rfl rfl (wants_none rfl) rfl (ex_fieldAddr fi_107_0 rfl rfl) ?_
                      refine JP_take (i := 1) [0, 1, 2, 3, 5, 11, 12] [4, 6, 7, 8, 9, 10] rfl (by kernel_rfl) (by kernel_rfl) (by kernel_rfl) rfl rfl (wants_none rfl) rfl (ex_load_bx 0 ti_2 rfl rfl rfl) ?_
                      refine JP_take (i := 2) [0, 1, 2, 3, 5, 11, 12] [4, 6, 7, 8, 9, 10] rfl (by kernel_rfl) (by kernel_rfl) (by kernel_rfl) rfl rfl (wants_none rfl) rfl (ex_fieldAddr fi_107_1 rfl rfl) ?_
                      refine JP_take (i := 3) [0, 1, 2, 3, 5, 11, 12] [4, 6, 7, 8, 9, 10] rfl (by kernel_rfl) (by kernel_rfl) (by kernel_rfl) rfl rfl (wants_none rfl) rfl (ex_load_bx 0 ti_2 rfl rfl rfl) ?_
                      refine JP_take (i := 4) [0, 1, 2, 3, 5, 11, 12] [4, 6, 7, 8, 9, 10] rfl (by kernel_rfl) (by kernel_rfl) (by kernel_rfl) rfl rfl (wants_none rfl) rfl (ex_move rfl) ?_
                      refine JP_take (i := 5) [0, 1, 2, 3, 5, 11, 12] [4, 6, 7, 8, 9, 10] rfl (by kernel_rfl) (by kernel_rfl) (by kernel_rfl) rfl rfl (wants_none rfl) rfl (ex_fieldAddr fi_107_2 rfl rfl) ?_
                      refine JP_take (i := 6) [0, 1, 2, 3, 5, 11, 12] [4, 6, 7, 8, 9, 10] rfl (by kernel_rfl) (by kernel_rfl) (by kernel_rfl) rfl rfl (wants_none rfl) rfl (ex_load_bx_agg 0 ti_55 rfl rfl rfl rfl) ?_
                      refine JP_go [0, 1, 2, 3, 5, 11, 12] [4, 6, 7, 8, 9, 10] rfl rfl rfl (fun w297 h1_298 hp296 => ?_)
                      refine JD_one (i := 7) (by kernel_rfl) ?_
                      refine JO_inline h1_298 [4, 6, 7, 8, 9, 10] [0, 5, 11, 12] rfl rfl rfl rfl (wants_none rfl) rfl Try.call51 rfl Try.func51 rfl Try.ntmps51 rfl rfl (fun C300 K_ hK299 => ?_)
                      refine J_seq ?_
                      refine J_region ?_
                      refine JL_st (wants_none rfl) rfl (st_box' rfl (fun w hh => (cv_aggs ⟨cv_int, cv_int, cv_int, cv_int, cv_int, cv_int, cv_int, cv_int, trivial⟩))) (fun b301 => ?_)
                      refine JL_q (wants_none rfl) rfl (ex_assign rfl) ?_
                      refine JL_nil ?_
                      refine N_then ?_
                      refine J_seq ?_
                      refine J_draw [] (by kernel_rfl) ?_
                      refine JP_take (i := 0) [0, 1, 2, 3, 4, 5, 6, 7, 8, 9, 10, 11, 12, 13, 14] [] rfl (by kernel_rfl) (by kernel_rfl) (by kernel_rfl) rfl rfl (wants_none rfl) rfl (ex_move rfl) ?_
                      refine JP_take (i := 1) [0, 1, 2, 3, 4, 5, 6, 7, 8, 9, 10, 11, 12, 13, 14] [] rfl (by kernel_rfl) (by kernel_rfl) (by kernel_rfl) rfl rfl (wants_none rfl) rfl (ex_nilCheck rfl) ?_
                      refine JP_take (i := 2) [0, 1, 2, 3, 4, 5, 6, 7, 8, 9, 10, 11, 12, 13, 14] [] rfl (by kernel_rfl) (by kernel_rfl) (by kernel_rfl) rfl rfl (wants_none rfl) rfl (ex_fieldAddr fi_80_2 rfl rfl) ?_
                      refine JP_take (i := 3) [0, 1, 2, 3, 4, 5, 6, 7, 8, 9, 10, 11, 12, 13, 14] [] rfl (by kernel_rfl) (by kernel_rfl) (by kernel_rfl) rfl rfl (wants_none rfl) rfl (ex_load_bx 11 ti_78 rfl rfl rfl) ?_
                      refine JP_take (i := 4) [0, 1, 2, 3, 4, 5, 6, 7, 8, 9, 10, 11, 12, 13, 14] [] rfl (by kernel_rfl) (by kernel_rfl) (by kernel_rfl) rfl rfl (wants_none rfl) rfl (ex_load_bx_agg 0 ti_55 rfl rfl rfl rfl) ?_
                      refine JP_take (i := 5) [0, 1, 2, 3, 4, 5, 6, 7, 8, 9, 10, 11, 12, 13, 14] [] rfl (by kernel_rfl) (by kernel_rfl) (by kernel_rfl) rfl rfl (wants_none rfl) rfl (ex_lookup_ok (x := (⟨s76.2.2.1, s76.2.2.2.1, s76.2.2.2.2.1, s76.2.2.2.2.2.1, s76.2.2.2.2.2.2.1, s76.2.2.2.2.2.2.2.1, s76.2.2.2.2.2.2.2.2.1, s76.2.2.2.2.2.2.2.2.2.1⟩ : GmultiPlace)) (z := 0) 10 key_55 Try.underlying78 zi_2 rfl rfl rfl rfl rfl) ?_
                      refine JP_take (i := 6) [0, 1, 2, 3, 4, 5, 6, 7, 8, 9, 10, 11, 12, 13, 14] [] rfl (by kernel_rfl) (by kernel_rfl) (by kernel_rfl) rfl rfl (wants_none rfl) rfl (ex_move rfl) ?_
                      refine JP_take (i := 7) [0, 1, 2, 3, 4, 5, 6, 7, 8, 9, 10, 11, 12, 13, 14] [] rfl (by kernel_rfl) (by kernel_rfl) (by kernel_rfl) rfl rfl (wants_none rfl) rfl (ex_extract rfl rfl) ?_
                      refine JP_take (i := 8) [0, 1, 2, 3, 4, 5, 6, 7, 8, 9, 10, 11, 12, 13, 14] [] rfl (by kernel_rfl) (by kernel_rfl) (by kernel_rfl) rfl rfl (wants_none rfl) rfl (ex_extract rfl rfl) ?_
                      refine JP_take (i := 9) [0, 1, 2, 3, 4, 5, 6, 7, 8, 9, 10, 11, 12, 13, 14] [] rfl (by kernel_rfl) (by kernel_rfl) (by kernel_rfl) rfl rfl (wants_none rfl) rfl (ex_assign rfl) ?_
                      refine JP_take (i := 10) [0, 1, 2, 3, 4, 5, 6, 7, 8, 9, 10, 11, 12, 13, 14] [] rfl (by kernel_rfl) (by kernel_rfl) (by kernel_rfl) rfl rfl (wants_none rfl) rfl (ex_assign rfl) ?_
                      refine JP_go [] [] rfl rfl rfl (fun _ _ _ => ?_)
                      refine JD_done (by kernel_rfl) ?_
                      refine N_then ?_
                      refine J_seq ?_
                      refine J_seq ?_
                      refine J_region ?_
                      refine JL_q (wants_none rfl) rfl (ex_move rfl) ?_
                      refine JL_q (wants_none rfl) rfl (ex_not rfl) ?_
                      refine JL_nil ?_
                      refine N_then ?_
                      refine J_if rfl (fun h302 => ?_) (fun h302 => ?_)
                      · refine J_seq ?_
                        refine J_region ?_
                        refine JL_q (wants_none rfl) rfl (ex_move rfl) ?_
                        refine JL_q (wants_none rfl) rfl (ex_nilCheck rfl) ?_
                        refine JL_q (wants_none rfl) rfl (ex_fieldAddr fi_80_1 rfl rfl) ?_
                        refine JL_q (wants_none rfl) rfl (ex_load_bx 11 ti_77 rfl rfl rfl) ?_
                        refine JL_bnd fun r303 hr304 => ?_
                        refine JL_call (wants_none rfl) rfl Try.call53 rfl (Ca_of0 fun w hh => c_impl_size_impl_multiPlace _ w (fun _ hk => hk.elim) _ _ (hh.ow0 9 rfl) _ hr304) (fun _ => ?_)
                        refine JL_q (wants_none rfl) rfl (ex_assign rfl) ?_
                        refine JL_nil ?_
                        refine N_then ?_
                        refine J_seq ?_
                        refine J_draw [10] (by kernel_rfl) ?_
                        refine JP_take (i := 0) [0, 1, 2, 3, 4, 5, 6, 7, 8, 9, 11, 12, 13, 14] [10] rfl (by kernel_rfl) (by kernel_rfl) (by kernel_rfl) rfl rfl (wants_none rfl) rfl (ex_move rfl) ?_
                        refine JP_take (i := 1) [0, 1, 2, 3, 4, 5, 6, 7, 8, 9, 11, 12, 13, 14] [10] rfl (by kernel_rfl) (by kernel_rfl) (by kernel_rfl) rfl rfl (wants_none rfl) rfl (ex_nilCheck rfl) ?_
                        refine JP_take (i := 2) [0, 1, 2, 3, 4, 5, 6, 7, 8, 9, 11, 12, 13, 14] [10] rfl (by kernel_rfl) (by kernel_rfl) (by kernel_rfl) rfl rfl (wants_none rfl) rfl (ex_fieldAddr fi_80_2 rfl rfl) ?_
                        refine JP_take (i := 3) [0, 1, 2, 3, 4, 5, 6, 7, 8, 9, 11, 12, 13, 14] [10] rfl (by kernel_rfl) (by kernel_rfl) (by kernel_rfl) rfl rfl (wants_none rfl) rfl (ex_load_bx 10 ti_78 rfl rfl rfl) ?_
                        refine JP_take (i := 4) [0, 1, 2, 3, 4, 5, 6, 7, 8, 9, 11, 12, 13, 14] [10] rfl (by kernel_rfl) (by kernel_rfl) (by kernel_rfl) rfl rfl (wants_none rfl) rfl (ex_load_bx_agg 0 ti_55 rfl rfl rfl rfl) ?_
                        refine JP_take (i := 5) [0, 1, 2, 3, 4, 5, 6, 7, 8, 9, 11, 12, 13, 14] [10] rfl (by kernel_rfl) (by kernel_rfl) (by kernel_rfl) rfl rfl (wants_none rfl) rfl (ex_move rfl) ?_
                        refine JP_go [0, 1, 2, 3, 4, 5, 6, 7, 8, 9, 11, 12, 13, 14] [10] rfl rfl rfl (fun w306 h1_307 hp305 => ?_)
                        refine JD_one (i := 6) (by kernel_rfl) ?_
                        refine JO_sk rfl (wants_none rfl) (sk_mapUpdate (x := (⟨s76.2.2.1, s76.2.2.2.1, s76.2.2.2.2.1, s76.2.2.2.2.2.1, s76.2.2.2.2.2.2.1, s76.2.2.2.2.2.2.2.1, s76.2.2.2.2.2.2.2.2.1, s76.2.2.2.2.2.2.2.2.2.1⟩ : GmultiPlace)) (y := r303) 10 key_55 Try.underlying78 rfl rfl rfl rfl rfl rfl rfl rfl) (sub_mp 0 rfl) ?_
                        refine JD_done (by kernel_rfl) ?_
                        refine N_then ?_
                        refine J_draw [9, 11] (by kernel_rfl) ?_
                        refine JP_take (i := 0) [0, 1, 2, 3, 4, 5, 6, 7, 8, 10, 12, 13, 14] [9, 11] rfl (by kernel_rfl) (by kernel_rfl) (by kernel_rfl) rfl rfl (wants_none rfl) rfl (ex_move rfl) ?_
                        refine JP_take (i := 1) [0, 1, 2, 3, 4, 5, 6, 7, 8, 10, 12, 13, 14] [9, 11] rfl (by kernel_rfl) (by kernel_rfl) (by kernel_rfl) rfl rfl (wants_none rfl) rfl (ex_move rfl) ?_
                        refine JP_take (i := 2) [0, 1, 2, 3, 4, 5, 6, 7, 8, 10, 12, 13, 14] [9, 11] rfl (by kernel_rfl) (by kernel_rfl) (by kernel_rfl) rfl rfl (wants_none rfl) rfl (ex_nilCheck rfl) ?_
                        refine JP_take (i := 3) [0, 1, 2, 3, 4, 5, 6, 7, 8, 10, 12, 13, 14] [9, 11] rfl (by kernel_rfl) (by kernel_rfl) (by kernel_rfl) rfl rfl (wants_none rfl) rfl (ex_fieldAddr fi_80_1 rfl rfl) ?_
                        refine JP_take (i := 5) [0, 1, 2, 3, 4, 5, 6, 7, 8, 10, 12, 13, 14] [9, 11] rfl (by kernel_rfl) (by kernel_rfl) (by kernel_rfl) rfl rfl (wants_none rfl) rfl (ex_load_bx_agg 0 ti_55 rfl rfl rfl rfl) ?_
                        refine JP_go [0, 1, 2, 3, 4, 5, 6, 7, 8, 10, 12, 13, 14] [9, 11] rfl rfl rfl (fun w309 h1_310 hp308 => ?_)
                        refine JD_two (i := 4) (j := 6) (by kernel_rfl) ?_ ?_
                        · refine JO_q rfl (wants_none rfl) rfl (ex_load_bx 11 ti_77 rfl rfl rfl) ?_
                          refine JD_one (i := 6) (by kernel_rfl) ?_
                          refine JO_st rfl (wants_none rfl) rfl (st_buildSlice (vs := [.agg #[.int .i64 s76.2.2.1, .int .i64 s76.2.2.2.1, .int .i64 s76.2.2.2.2.1, .int .i64 s76.2.2.2.2.2.1, .int .i64 s76.2.2.2.2.2.2.1, .int .i64 s76.2.2.2.2.2.2.2.1, .int .i64 s76.2.2.2.2.2.2.2.2.1, .int .i64 s76.2.2.2.2.2.2.2.2.2.1]]) ([(⟨s76.2.2.1, s76.2.2.2.1, s76.2.2.2.2.1, s76.2.2.2.2.2.1, s76.2.2.2.2.2.2.1, s76.2.2.2.2.2.2.2.1, s76.2.2.2.2.2.2.2.2.1, s76.2.2.2.2.2.2.2.2.2.1⟩ : GmultiPlace)] : List GmultiPlace) Try.underlying77 ti_55 zi_55 rfl rfl rfl (fun w hh => ⟨(GmultiPlace.rdmk (Rd.mk_int _ _ _) (Rd.mk_int _ _ _) (Rd.mk_int _ _ _) (Rd.mk_int _ _ _) (Rd.mk_int _ _ _) (Rd.mk_int _ _ _) (Rd.mk_int _ _ _) (Rd.mk_int _ _ _)), trivial⟩)) (fun _ hk => nomatch hk) (fun b311 => ?_)
                          refine JD_bnd fun z312 hz313 => ?_
                          refine JD_one (i := 7) (by kernel_rfl) ?_
                          refine JO_st rfl (wants_none rfl) rfl (st_append 10 Try.underlying77 ti_55 zi_55 rfl bi_55 rfl rfl rfl rfl (fun w hh => hh.src_ow 0 rfl) hz313) (sub_ow 0 rfl) (fun v314 => ?_)
                          refine JD_take (i := 8) hp308 rfl (by kernel_rfl) (by kernel_rfl) (by kernel_rfl) (wants_none rfl) rfl (ex_nilCheck rfl) ?_
                          refine JD_take (i := 9) hp308 rfl (by kernel_rfl) (by kernel_rfl) (by kernel_rfl) (wants_none rfl) rfl (ex_fieldAddr fi_80_1 rfl rfl) ?_
                          refine JD_one (i := 10) (by kernel_rfl) ?_
                          refine JO_sk rfl (wants_none rfl) (sk_store_bx' 12 ti_77 rfl rfl (fun w hh => (hh.cv_ow 10 rfl)) rfl rfl rfl rfl) (sub_bx 1 rfl) ?_
                          refine JD_done (by kernel_rfl) ?_
                          refine N_then ?_
                          refine J_seq ?_
                          refine J_region ?_
                          refine JL_q (wants_none rfl) rfl (ex_move rfl) ?_
                          refine JL_q (wants_none rfl) rfl (ex_assign rfl) ?_
                          refine JL_nil ?_
                          refine N_then ?_
                          refine J_ret ?_
                          refine N_inlD1 hK299 rfl (rv_tmp rfl) 2 [3, 8, 14, 15] rfl rfl ?_
                          refine JD_take (i := 8) hp296 rfl (by kernel_rfl) (by kernel_rfl) (by kernel_rfl) (wants_none rfl) rfl (ex_build si_91 rfl (.cons fi_91_0 rfl rfl (.cons fi_91_1 rfl rfl (.cons fi_91_2 rfl rfl .nil))) (fun w hh => ⟨cv_int, cv_int, cv_int, trivial⟩)) ?_
                          refine JD_one (i := 9) (by kernel_rfl) ?_
                          refine JO_sk rfl (wants_none rfl) (sk_store_bx' 13 ti_91 rfl rfl (fun w hh => (cv_aggs ⟨cv_int, cv_int, cv_int, trivial⟩)) rfl rfl rfl rfl) (sub_bx 5 rfl) ?_
                          refine JD_done (by kernel_rfl) ?_
                          exact N_meet' v314 ⟨rfl, rfl, rfl, rfl, rfl, rfl, rfl, trivial⟩ [4, 5, 6, 7, 8, 9, 10, 11, 12, 13, 14, 15] rfl rfl
                        · refine JO_st rfl (wants_none rfl) rfl (st_buildSlice (vs := [.agg #[.int .i64 s76.2.2.1, .int .i64 s76.2.2.2.1, .int .i64 s76.2.2.2.2.1, .int .i64 s76.2.2.2.2.2.1, .int .i64 s76.2.2.2.2.2.2.1, .int .i64 s76.2.2.2.2.2.2.2.1, .int .i64 s76.2.2.2.2.2.2.2.2.1, .int .i64 s76.2.2.2.2.2.2.2.2.2.1]]) ([(⟨s76.2.2.1, s76.2.2.2.1, s76.2.2.2.2.1, s76.2.2.2.2.2.1, s76.2.2.2.2.2.2.1, s76.2.2.2.2.2.2.2.1, s76.2.2.2.2.2.2.2.2.1, s76.2.2.2.2.2.2.2.2.2.1⟩ : GmultiPlace)] : List GmultiPlace) Try.underlying77 ti_55 zi_55 rfl rfl rfl (fun w hh => ⟨(GmultiPlace.rdmk (Rd.mk_int _ _ _) (Rd.mk_int _ _ _) (Rd.mk_int _ _ _) (Rd.mk_int _ _ _) (Rd.mk_int _ _ _) (Rd.mk_int _ _ _) (Rd.mk_int _ _ _) (Rd.mk_int _ _ _)), trivial⟩)) (fun _ hk => nomatch hk) (fun b315 => ?_)
                          refine JD_one (i := 4) (by kernel_rfl) ?_
                          refine JO_q rfl (wants_none rfl) rfl (ex_load_bx 12 ti_77 rfl rfl rfl) ?_
                          refine JD_bnd fun z316 hz317 => ?_
                          refine JD_one (i := 7) (by kernel_rfl) ?_
                          refine JO_st rfl (wants_none rfl) rfl (st_append 10 Try.underlying77 ti_55 zi_55 rfl bi_55 rfl rfl rfl rfl (fun w hh => hh.src_ow 0 rfl) hz317) (sub_ow 0 rfl) (fun v318 => ?_)
                          refine JD_take (i := 8) hp308 rfl (by kernel_rfl) (by kernel_rfl) (by kernel_rfl) (wants_none rfl) rfl (ex_nilCheck rfl) ?_
                          refine JD_take (i := 9) hp308 rfl (by kernel_rfl) (by kernel_rfl) (by kernel_rfl) (wants_none rfl) rfl (ex_fieldAddr fi_80_1 rfl rfl) ?_
                          refine JD_one (i := 10) (by kernel_rfl) ?_
                          refine JO_sk rfl (wants_none rfl) (sk_store_bx' 12 ti_77 rfl rfl (fun w hh => (hh.cv_ow 10 rfl)) rfl rfl rfl rfl) (sub_bx 1 rfl) ?_
                          refine JD_done (by kernel_rfl) ?_
                          refine N_then ?_
                          refine J_seq ?_
                          refine J_region ?_
                          refine JL_q (wants_none rfl) rfl (ex_move rfl) ?_
                          refine JL_q (wants_none rfl) rfl (ex_assign rfl) ?_
                          refine JL_nil ?_
                          refine N_then ?_
                          refine J_ret ?_
                          refine N_inlD1 hK299 rfl (rv_tmp rfl) 2 [3, 8, 14, 15] rfl rfl ?_
                          refine JD_take (i := 8) hp296 rfl (by kernel_rfl) (by kernel_rfl) (by kernel_rfl) (wants_none rfl) rfl (ex_build si_91 rfl (.cons fi_91_0 rfl rfl (.cons fi_91_1 rfl rfl (.cons fi_91_2 rfl rfl .nil))) (fun w hh => ⟨cv_int, cv_int, cv_int, trivial⟩)) ?_
                          refine JD_one (i := 9) (by kernel_rfl) ?_
                          refine JO_sk rfl (wants_none rfl) (sk_store_bx' 13 ti_91 rfl rfl (fun w hh => (cv_aggs ⟨cv_int, cv_int, cv_int, trivial⟩)) rfl rfl rfl rfl) (sub_bx 5 rfl) ?_
                          refine JD_done (by kernel_rfl) ?_
                          exact N_meet' v318 ⟨rfl, rfl, rfl, rfl, rfl, rfl, rfl, trivial⟩ [4, 5, 6, 7, 8, 9, 10, 11, 12, 13, 14, 15] rfl rfl
                      · refine J_skip ?_
                        refine N_then ?_
                        refine J_seq ?_
                        refine J_region ?_
                        refine JL_q (wants_none rfl) rfl (ex_move rfl) ?_
                        refine JL_q (wants_none rfl) rfl (ex_assign rfl) ?_
                        refine JL_nil ?_
                        refine N_then ?_
                        refine J_ret ?_
                        refine N_inlD1 hK299 rfl (rv_tmp rfl) 1 [2, 7, 13, 14] rfl rfl ?_
                        refine JD_take (i := 8) hp296 rfl (by kernel_rfl) (by kernel_rfl) (by kernel_rfl) (wants_none rfl) rfl (ex_build si_91 rfl (.cons fi_91_0 rfl rfl (.cons fi_91_1 rfl rfl (.cons fi_91_2 rfl rfl .nil))) (fun w hh => ⟨cv_int, cv_int, cv_int, trivial⟩)) ?_
                        refine JD_one (i := 9) (by kernel_rfl) ?_
                        refine JO_sk rfl (wants_none rfl) (sk_store_bx' 12 ti_91 rfl rfl (fun w hh => (cv_aggs ⟨cv_int, cv_int, cv_int, trivial⟩)) rfl rfl rfl rfl) (sub_bx 5 rfl) ?_
                        refine JD_done (by kernel_rfl) ?_
                        exact N_meet' (.slice (some ⟨b72, 0, none⟩) s62.2.1.length cap73) ⟨rfl, rfl, rfl, rfl, rfl, rfl, rfl, trivial⟩ [3, 4, 5, 6, 7, 8, 9, 10, 11, 12, 13, 14] rfl rfl
                    · refine J_skip ?_
                      exact N_meet' (.slice (some ⟨b72, 0, none⟩) s62.2.1.length cap73) ⟨rfl, rfl, rfl, rfl, rfl, rfl, rfl, trivial⟩ [1, 2, 3, 4, 5, 6, 7, 8, 9, 10, 11, 12] rfl rfl
                · refine N_then ?_
                  refine J_draw [5, 8] (by kernel_rfl) ?_
                  refine JP_take (i := 0) [0, 1, 2, 3, 4, 6, 7, 9, 10, 11] [5, 8] rfl (by kernel_rfl) (by kernel_rfl) (by kernel_rfl) rfl rfl (wants_none rfl) rfl (ex_move rfl) ?_
                  refine JP_take (i := 1) [0, 1, 2, 3, 4, 6, 7, 9, 10, 11] [5, 8] rfl (by kernel_rfl) (by kernel_rfl) (by kernel_rfl) rfl rfl (wants_none rfl) rfl (ex_move rfl) ?_
                  refine JP_take (i := 2) [0, 1, 2, 3, 4, 6, 7, 9, 10, 11] [5, 8] rfl (by kernel_rfl) (by kernel_rfl) (by kernel_rfl) rfl rfl (wants_none rfl) rfl (ex_nilCheck rfl) ?_
                  refine JP_take (i := 3) [0, 1, 2, 3, 4, 6, 7, 9, 10, 11] [5, 8] rfl (by kernel_rfl) (by kernel_rfl) (by kernel_rfl) rfl rfl (wants_none rfl) rfl (ex_fieldAddr fi_80_0 rfl rfl) ?_
                  refine JP_take (i := 4) [0, 1, 2, 3, 4, 6, 7, 9, 10, 11] [5, 8] rfl (by kernel_rfl) (by kernel_rfl) (by kernel_rfl) rfl rfl (wants_none rfl) rfl (ex_fieldAddr fi_28_2 rfl rfl) ?_
                  refine JP_take (i := 6) [0, 1, 2, 3, 4, 6, 7, 9, 10, 11] [5, 8] rfl (by kernel_rfl) (by kernel_rfl) (by kernel_rfl) rfl rfl (wants_none rfl) rfl (ex_load_bx_agg 7 ti_91 rfl rfl rfl rfl) ?_
                  refine JP_go [0, 1, 2, 3, 4, 6, 7, 9, 10, 11] [5, 8] rfl rfl rfl (fun w320 h1_321 hp319 => ?_)
                  refine JD_two (i := 5) (j := 7) (by kernel_rfl) ?_ ?_
                  · refine JO_q rfl (wants_none rfl) rfl (ex_load_bx 8 ti_26 rfl rfl rfl) ?_
                    refine JD_one (i := 7) (by kernel_rfl) ?_
                    refine JO_st rfl (wants_none rfl) rfl (st_buildSlice (vs := [.agg #[.int .i64 s68.2.2.1, .int .i64 s68.2.2.2.1, .int .i64 s68.2.2.2.2]]) ([(⟨s68.2.2.1, s68.2.2.2.1, s68.2.2.2.2⟩ : GRule)] : List GRule) Try.underlying26 ti_91 zi_91 rfl rfl rfl (fun w hh => ⟨(GRule.rdmk (Rd.mk_int _ _ _) (Rd.mk_int _ _ _) (Rd.mk_int _ _ _)), trivial⟩)) (fun _ hk => nomatch hk) (fun b322 => ?_)
                    refine JD_bnd fun z323 hz324 => ?_
                    refine JD_one (i := 8) (by kernel_rfl) ?_
                    refine JO_st rfl (wants_none rfl) rfl (st_append 6 Try.underlying26 ti_91 zi_91 rfl bi_91 rfl rfl rfl rfl (fun w hh => hh.src_ow 0 rfl) hz324) (sub_ow 0 rfl) (fun v325 => ?_)
                    refine JD_take (i := 9) hp319 rfl (by kernel_rfl) (by kernel_rfl) (by kernel_rfl) (wants_none rfl) rfl (ex_nilCheck rfl) ?_
                    refine JD_take (i := 10) hp319 rfl (by kernel_rfl) (by kernel_rfl) (by kernel_rfl) (wants_none rfl) rfl (ex_fieldAddr fi_80_0 rfl rfl) ?_
                    refine JD_take (i := 11) hp319 rfl (by kernel_rfl) (by kernel_rfl) (by kernel_rfl) (wants_none rfl) rfl (ex_fieldAddr fi_28_2 rfl rfl) ?_
                    refine JD_one (i := 12) (by kernel_rfl) ?_
                    refine JO_sk rfl (wants_none rfl) (sk_store_bx' 9 ti_26 rfl rfl (fun w hh => (hh.cv_ow 6 rfl)) rfl rfl rfl rfl) (sub_bx 1 rfl) ?_
                    refine JD_done (by kernel_rfl) ?_
                    refine N_block ?_
                    refine N_then ?_
                    refine J_region ?_
                    refine JL_q (wants_none rfl) rfl (ex_add rfl rfl) ?_
                    refine JL_q (wants_none rfl) rfl (ex_move rfl) ?_
                    refine JL_nil ?_
                    exact N_next' (v325, g69) ⟨rfl, rfl, rfl, rfl, rfl, rfl, trivial⟩ [1, 2, 3, 4, 5, 6, 7, 8, 9, 11, 12] rfl rfl
                  · refine JO_st rfl (wants_none rfl) rfl (st_buildSlice (vs := [.agg #[.int .i64 s68.2.2.1, .int .i64 s68.2.2.2.1, .int .i64 s68.2.2.2.2]]) ([(⟨s68.2.2.1, s68.2.2.2.1, s68.2.2.2.2⟩ : GRule)] : List GRule) Try.underlying26 ti_91 zi_91 rfl rfl rfl (fun w hh => ⟨(GRule.rdmk (Rd.mk_int _ _ _) (Rd.mk_int _ _ _) (Rd.mk_int _ _ _)), trivial⟩)) (fun _ hk => nomatch hk) (fun b326 => ?_)
                    refine JD_one (i := 5) (by kernel_rfl) ?_
                    refine JO_q rfl (wants_none rfl) rfl (ex_load_bx 9 ti_26 rfl rfl rfl) ?_
                    refine JD_bnd fun z327 hz328 => ?_
                    refine JD_one (i := 8) (by kernel_rfl) ?_
                    refine JO_st rfl (wants_none rfl) rfl (st_append 6 Try.underlying26 ti_91 zi_91 rfl bi_91 rfl rfl rfl rfl (fun w hh => hh.src_ow 0 rfl) hz328) (sub_ow 0 rfl) (fun v329 => ?_)
                    refine JD_take (i := 9) hp319 rfl (by kernel_rfl) (by kernel_rfl) (by kernel_rfl) (wants_none rfl) rfl (ex_nilCheck rfl) ?_
                    refine JD_take (i := 10) hp319 rfl (by kernel_rfl) (by kernel_rfl) (by kernel_rfl) (wants_none rfl) rfl (ex_fieldAddr fi_80_0 rfl rfl) ?_
                    refine JD_take (i := 11) hp319 rfl (by kernel_rfl) (by kernel_rfl) (by kernel_rfl) (wants_none rfl) rfl (ex_fieldAddr fi_28_2 rfl rfl) ?_
                    refine JD_one (i := 12) (by kernel_rfl) ?_
                    refine JO_sk rfl (wants_none rfl) (sk_store_bx' 9 ti_26 rfl rfl (fun w hh => (hh.cv_ow 6 rfl)) rfl rfl rfl rfl) (sub_bx 1 rfl) ?_
                    refine JD_done (by kernel_rfl) ?_
                    refine N_block ?_
                    refine N_then ?_
                    refine J_region ?_
                    refine JL_q (wants_none rfl) rfl (ex_add rfl rfl) ?_
                    refine JL_q (wants_none rfl) rfl (ex_move rfl) ?_
                    refine JL_nil ?_
                    exact N_next' (v329, g69) ⟨rfl, rfl, rfl, rfl, rfl, rfl, trivial⟩ [1, 2, 3, 4, 5, 6, 7, 8, 9, 11, 12] rfl rfl
              · refine J_exit ?_
                refine N_then_exit ?_
                exact N_break' (g63_0, g63_1) ⟨rfl, rfl, rfl, rfl, rfl, rfl, trivial⟩ [0, 1, 2, 3, 4, 5, 6, 7, 8, 9, 10] rfl rfl
            · obtain ⟨g63_0, g63_1⟩ := g63
              refine N_then ?_
              refine J_seq ?_
              refine J_region ?_
              refine JL_q (wants_none rfl) rfl (ex_move rfl) ?_
              refine JL_q (wants_none rfl) rfl (ex_nilCheck rfl) ?_
              refine JL_q (wants_none rfl) rfl (ex_fieldAddr fi_80_1 rfl rfl) ?_
              refine JL_q (wants_none rfl) rfl (ex_load_bx 8 ti_77 rfl rfl rfl) ?_
              refine JL_q (wants_none rfl) rfl (ex_len_ow 6 Try.underlying77 rfl rfl) ?_
              refine JL_q (wants_none rfl) rfl (ex_gtr rfl rfl) ?_
              refine JL_nil ?_
              refine N_then ?_
              refine J_if rfl (fun h330 => ?_) (fun h330 => ?_)
              · refine J_seq ?_
                refine J_region ?_
                refine JL_q (wants_none rfl) rfl (ex_assign rfl) ?_
                refine JL_q (wants_none rfl) rfl (ex_assign rfl) ?_
                refine JL_nil ?_
                refine N_then ?_
                refine J_ret ?_
                refine N_block_ret ?_
                refine N_then_ret ?_
                refine N_round_reti ?_
                refine N_then_ret ?_
                refine N_inlD2 hK33 rfl (rv_tmp rfl) (rv_tmp rfl) 0 [4, 9, 10] rfl rfl ?_
                refine JD_take (i := 7) hp28 rfl (by kernel_rfl) (by kernel_rfl) (by kernel_rfl) (wants_none rfl) rfl (ex_extract rfl rfl) ?_
                refine JD_take (i := 8) hp28 rfl (by kernel_rfl) (by kernel_rfl) (by kernel_rfl) (wants_none rfl) rfl (ex_extract rfl rfl) ?_
                refine JD_take (i := 9) hp28 rfl (by kernel_rfl) (by kernel_rfl) (by kernel_rfl) (wants_none rfl) rfl (ex_assign rfl) ?_
                refine JD_take (i := 10) hp28 rfl (by kernel_rfl) (by kernel_rfl) (by kernel_rfl) (wants_none rfl) rfl (ex_assign rfl) ?_
                refine JD_done (by kernel_rfl) ?_
                refine N_then ?_
                refine J_ret ?_
                refine N_inl2 hK6 rfl (rv_tmp rfl) (rv_tmp rfl) ?_
                refine JL_q (wants_none rfl) rfl (ex_extract rfl rfl) ?_
                refine JL_q (wants_none rfl) rfl (ex_extract rfl rfl) ?_
                refine JL_inline (wants_none rfl) rfl Try.call18 rfl Try.func18 rfl Try.ntmps18 rfl rfl (fun K_ hK331 => ?_)
                refine J_seq ?_
                refine J_region ?_
                refine JL_st (wants_none rfl) rfl (st_alloc zi_28 rfl) (fun b332 => ?_)
                refine JL_q (wants_none rfl) rfl (ex_assign rfl) ?_
                refine JL_nil ?_
                refine N_then ?_
                refine J_seq ?_
                refine J_seq ?_
                refine J_region ?_
                refine JL_q (wants_none rfl) rfl (ex_move rfl) ?_
                refine JL_q (wants_none rfl) rfl (ex_not rfl) ?_
                refine JL_nil ?_
                refine N_then ?_
                refine J_if_true rfl rfl ?_
                refine J_seq ?_
                refine J_region ?_
                refine JL_q (wants_none rfl) rfl (ex_build si_28 rfl .nil (fun w hh => trivial)) ?_
                refine JL_sk (wants_none rfl) (sk_store_bx' 0 ti_28 rfl rfl (fun w hh => (cv_aggs ⟨cv_int, cv_int, cv_slice, trivial⟩)) rfl rfl rfl rfl) ?_
                refine JL_q (wants_none rfl) rfl (ex_assign rfl) ?_
                refine JL_nil ?_
                refine N_then ?_
                refine J_ret ?_
                refine N_then_ret ?_
                refine N_inl2 hK331 rfl (rv_cell 0 rfl rfl ti_28 rfl) (rv_tmp rfl) ?_
                refine JL_q (wants_none rfl) rfl (ex_extract rfl rfl) ?_
                refine JL_q (wants_none rfl) rfl (ex_extract rfl rfl) ?_
                refine JL_sk (wants_none rfl) (sk_store_bx' 10 ti_28 rfl rfl (fun w hh => (cv_aggs ⟨cv_int, cv_int, cv_slice, trivial⟩)) rfl rfl rfl rfl) ?_
                refine JL_q (wants_none rfl) rfl (ex_assign rfl) ?_
                refine JL_nil ?_
                refine N_then ?_
                refine J_ret ?_
                refine N_ctx (fun w hh => SH.ow_nil (α := GRule) 91 hh) ?_
                exact N_ret2 rfl (rv_cell 11 rfl rfl ti_28 rfl) (rv_tmp rfl) (fun w hh => ⟨(.slice none 0 0 : Value), rfl, hh.sel [0] rfl⟩)
              · refine J_skip ?_
                refine N_block ?_
                refine N_then ?_
                refine J_region ?_
                refine JL_q (wants_none rfl) rfl (ex_move rfl) ?_
                refine JL_q (wants_none rfl) rfl (ex_add rfl rfl) ?_
                refine JL_q (wants_none rfl) rfl (ex_assign rfl) ?_
                refine JL_nil ?_
                exact N_next' (g63_0, g63_1) ⟨rfl, rfl, rfl, rfl, trivial⟩ [0, 1, 2, 3, 4, 5, 6, 7, 8, 9, 10] rfl rfl
          · refine J_exit ?_
            refine N_then_exit ?_
            exact N_break' (g60_0, g60_1) ⟨rfl, rfl, rfl, rfl, trivial⟩ [0, 1, 2, 3, 4, 5, 6, 7, 8, 9, 10] rfl rfl
        · obtain ⟨g60_0, g60_1⟩ := g60
          refine N_then ?_
          refine J_seq ?_
          refine J_region ?_
          refine JL_q (wants_none rfl) rfl (ex_move rfl) ?_
          refine JL_q (wants_none rfl) rfl (ex_move rfl) ?_
          refine JL_q (wants_none rfl) rfl (ex_nilCheck rfl) ?_
          refine JL_q (wants_none rfl) rfl (ex_fieldAddr fi_80_1 rfl rfl) ?_
          refine JL_q (wants_none rfl) rfl (ex_load_bx 8 ti_77 rfl rfl rfl) ?_
          refine JL_bnd fun r333 hr334 => ?_
          refine JL_call (wants_none rfl) rfl Try.call53 rfl (Ca_of0 fun w hh => c_impl_size_impl_multiPlace _ w (fun _ hk => hk.elim) _ _ (hh.ow0 6 rfl) _ hr334) (fun _ => ?_)
          refine JL_q (wants_none rfl) rfl (ex_nilCheck rfl) ?_
          refine JL_q (wants_none rfl) rfl (ex_fieldAddr fi_80_0 rfl rfl) ?_
          refine JL_q (wants_none rfl) rfl (ex_fieldAddr fi_28_1 rfl rfl) ?_
          refine JL_sk (wants_none rfl) (sk_store_bx' 8 ti_2 rfl rfl (fun w hh => cv_int) rfl rfl rfl rfl) ?_
          refine JL_nil ?_
          refine N_then ?_
          refine J_seq ?_
          refine J_region ?_
          refine JL_q (wants_none rfl) rfl (ex_move rfl) ?_
          refine JL_q (wants_none rfl) rfl (ex_assign rfl) ?_
          refine JL_q (wants_none rfl) rfl (ex_assign rfl) ?_
          refine JL_nil ?_
          refine N_then ?_
          refine J_ret ?_
          refine N_inlD2 hK33 rfl (rv_tmp rfl) (rv_tmp rfl) 0 [4, 9, 10] rfl rfl ?_
          refine JD_take (i := 7) hp28 rfl (by kernel_rfl) (by kernel_rfl) (by kernel_rfl) (wants_none rfl) rfl (ex_extract rfl rfl) ?_
          refine JD_take (i := 8) hp28 rfl (by kernel_rfl) (by kernel_rfl) (by kernel_rfl) (wants_none rfl) rfl (ex_extract rfl rfl) ?_
          refine JD_take (i := 9) hp28 rfl (by kernel_rfl) (by kernel_rfl) (by kernel_rfl) (wants_none rfl) rfl (ex_assign rfl) ?_
          refine JD_take (i := 10) hp28 rfl (by kernel_rfl) (by kernel_rfl) (by kernel_rfl) (wants_none rfl) rfl (ex_assign rfl) ?_
          refine JD_done (by kernel_rfl) ?_
          refine N_then ?_
          refine J_ret ?_
          refine N_inl2 hK6 rfl (rv_tmp rfl) (rv_tmp rfl) ?_
          refine JL_q (wants_none rfl) rfl (ex_extract rfl rfl) ?_
          refine JL_q (wants_none rfl) rfl (ex_extract rfl rfl) ?_
          refine JL_inline (wants_none rfl) rfl Try.call18 rfl Try.func18 rfl Try.ntmps18 rfl rfl (fun K_ hK335 => ?_)
          refine J_seq ?_
          refine J_region ?_
          refine JL_st (wants_none rfl) rfl (st_alloc zi_28 rfl) (fun b336 => ?_)
          refine JL_q (wants_none rfl) rfl (ex_assign rfl) ?_
          refine JL_nil ?_
          refine N_then ?_
          refine J_seq ?_
          refine J_seq ?_
          refine J_region ?_
          refine JL_q (wants_none rfl) rfl (ex_move rfl) ?_
          refine JL_q (wants_none rfl) rfl (ex_not rfl) ?_
          refine JL_nil ?_
          refine N_then ?_
          refine J_if_false rfl rfl ?_
          refine J_skip ?_
          refine N_then ?_
          refine J_seq ?_
          refine J_region ?_
          refine JL_q (wants_none rfl) rfl (ex_move rfl) ?_
          refine JL_q (wants_none rfl) rfl (ex_nilCheck rfl) ?_
          refine JL_q (wants_none rfl) rfl (ex_fieldAddr fi_80_0 rfl rfl) ?_
          refine JL_q (wants_none rfl) rfl (ex_load_bx_agg 9 ti_28 rfl rfl rfl rfl) ?_
          refine JL_sk (wants_none rfl) (sk_store_bx' 0 ti_28 rfl rfl (fun w hh => (cv_aggs ⟨cv_int, cv_int, (hh.cv_ow 6 rfl), trivial⟩)) rfl rfl rfl rfl) ?_
          refine JL_q (wants_none rfl) rfl (ex_assign rfl) ?_
          refine JL_nil ?_
          refine N_then ?_
          refine J_ret ?_
          refine N_inl2 hK335 rfl (rv_cell 0 rfl rfl ti_28 rfl) (rv_tmp rfl) ?_
          refine JL_q (wants_none rfl) rfl (ex_extract rfl rfl) ?_
          refine JL_q (wants_none rfl) rfl (ex_extract rfl rfl) ?_
          refine JL_sk (wants_none rfl) (sk_store_bx' 10 ti_28 rfl rfl (fun w hh => (cv_aggs ⟨cv_int, cv_int, (hh.cv_ow 6 rfl), trivial⟩)) rfl rfl rfl rfl) ?_
          refine JL_q (wants_none rfl) rfl (ex_assign rfl) ?_
          refine JL_nil ?_
          refine N_then ?_
          refine J_ret ?_
          exact N_ret2 rfl (rv_cell 10 rfl rfl ti_28 rfl) (rv_tmp rfl) (fun w hh => ⟨g60_0, rfl, hh.sel [6] rfl⟩)

end Go.Proofs.Ytafjflnnkdbmdaa
