/-
  Each function of the program computes what its plain function says: printed by program. No condition.
-/
import Derived.Test.YtceimgjcikkadaaFn
import Derived.Test.YtceimgjcikkadaaInf
import Derived.Test.YtceimgjcikkadaaCon1
import Derived.Test.YtceimgjcikkadaaCon2
import Derived.Test.YtceimgjcikkadaaCon4
import Derived.Test.YtceimgjcikkadaaCon6
import Derived.Test.YtceimgjcikkadaaCon7
import Derived.Test.YtceimgjcikkadaaCon13
namespace Go.Proofs.Ytceimgjcikkadaa
open Go Go.Tc Go.Fn
set_option linter.unusedVariables false

set_option maxHeartbeats 40000000 in
theorem c_impl_FoldConfig (A : Nat → Prop) (w : World) (hA : ∀ k, A k → k < w.heap.size) (v0_ : Value) (p0 : GMachine) (hp0 : Rd A w v0_ p0) (v1_ : Value) (p1 : GConfig) (hp1 : Rd A w v1_ p1) (r : GConfig × Int) (hr : F_impl_FoldConfig p0 p1 = some r) :
    Con Try.prog 20 [v0_, v1_] A w (fun x_ : Value × List Nat × Value × List Nat => .tuple #[.agg #[.int .i64 r.1.State, x_.1, x_.2.2.1], .int .i64 r.2]) (fun x_ => [.tkn x_.1 r.1.Left x_.2.1, .tkn x_.2.2.1 r.1.Right x_.2.2.2]) := by
  obtain ⟨v0_0, rfl, hp0_0⟩ := GMachine.open hp0
  obtain ⟨v1_0, v1_1, rfl, hp1_0, hp1_1⟩ := GConfig.open hp1
  refine Con_of (v := fun (r : GConfig × Int) (x_ : Value × List Nat × Value × List Nat) => .tuple #[.agg #[.int .i64 r.1.State, x_.1, x_.2.2.1], .int .i64 r.2]) (fs := fun r x_ => [.tkn x_.1 r.1.Left x_.2.1, .tkn x_.2.2.1 r.1.Right x_.2.2.2]) Try.func20 rfl Try.ntmps20 rfl ((((SH.start hA).start_rd rfl hp0_0).start_rd rfl hp1_0).start_rd rfl hp1_1) rfl ?_ hr
  unfold F_impl_FoldConfig
  refine J_seq ?_
  refine J_region ?_
  refine JL_st (wants_none rfl) rfl (st_box' rfl (fun w hh => (cv_aggs ⟨cv_int, cv_int, (hh.cv 2 rfl), trivial⟩))) (fun b1 => ?_)
  refine JL_st (wants_none rfl) rfl (st_box' rfl (fun w hh => (cv_aggs ⟨cv_int, (hh.cv 2 rfl), (hh.cv 1 rfl), trivial⟩))) (fun b2 => ?_)
  refine JL_st (wants_none rfl) rfl (st_alloc zi_39 rfl) (fun b3 => ?_)
  refine JL_q (wants_none rfl) rfl (ex_assign rfl) ?_
  refine JL_nil ?_
  refine N_then ?_
  refine J_seq ?_
  refine J_seq ?_
  refine J_region ?_
  refine JL_q (wants_none rfl) rfl (ex_load_bx_agg 2 ti_28 rfl rfl rfl rfl) ?_
  refine JL_q (wants_none rfl) rfl (ex_load_bx_agg 1 ti_39 rfl rfl rfl rfl) ?_
  refine JL_bnd fun r4 hr5 => ?_
  refine JL_call (wants_none rfl) rfl Try.call47 rfl (Ca_of0 fun w hh => c_impl_ValidConfig _ w (fun _ hk => hk.elim) _ _ (GMachine.rdmk (Rd.mk_int _ _ _) (Rd.mk_int _ _ _) (hh.rd0 5 rfl)) _ _ (GConfig.rdmk (Rd.mk_int _ _ _) (hh.rd0 4 rfl) (hh.rd0 3 rfl)) _ hr5) (fun _ => ?_)
  refine JL_q (wants_none rfl) rfl (ex_not rfl) ?_
  refine JL_nil ?_
  refine N_then ?_
  refine J_if rfl (fun h6 => ?_) (fun h6 => ?_)
  · refine J_seq ?_
    refine J_region ?_
    refine JL_q (wants_none rfl) rfl (ex_build si_39 rfl .nil (fun w hh => trivial)) ?_
    refine JL_sk (wants_none rfl) (sk_store_bx' 0 ti_39 rfl rfl (fun w hh => (cv_aggs ⟨cv_int, cv_slice, cv_slice, trivial⟩)) rfl rfl rfl rfl) ?_
    refine JL_q (wants_none rfl) rfl (ex_assign rfl) ?_
    refine JL_nil ?_
    refine N_then ?_
    refine J_ret ?_
    refine N_then_ret ?_
    refine N_ctx (fun w hh => SH.ow_nil (α := Int) 2 hh) ?_
    refine N_ctx (fun w hh => hh.tokf 0 rfl rfl) ?_
    refine N_ctx (fun w hh => SH.ow_nil (α := Int) 2 hh) ?_
    refine N_ctx (fun w hh => hh.tokf 0 rfl rfl) ?_
    exact N_ret2 rfl (rv_cell 4 rfl rfl ti_39 rfl) (rv_tmp rfl) (fun w hh => ⟨((.slice none 0 0 : Value), ((.slice none 0 0 : Value).ownBlock.toList ++ []), (.slice none 0 0 : Value), ((.slice none 0 0 : Value).ownBlock.toList ++ [])), rfl, hh.sel [2, 0] rfl⟩)
  · refine J_skip ?_
    refine N_then ?_
    refine J_seq ?_
    refine J_region ?_
    refine JL_q (wants_none rfl) rfl (ex_load_bx_agg 2 ti_28 rfl rfl rfl rfl) ?_
    refine JL_inline (wants_none rfl) rfl Try.call40 rfl Try.func40 rfl Try.ntmps40 rfl rfl (fun K_ hK7 => ?_)
    refine J_seq ?_
    refine J_region ?_
    refine JL_st (wants_none rfl) rfl (st_box' rfl (fun w hh => (cv_aggs ⟨cv_int, cv_int, (hh.cv 5 rfl), trivial⟩))) (fun b8 => ?_)
    refine JL_q (wants_none rfl) rfl (ex_assign rfl) ?_
    refine JL_q (wants_none rfl) rfl (ex_assign rfl) ?_
    refine JL_nil ?_
    refine N_then ?_
    refine J_seq ?_
    refine J_seq ?_
    refine J_region ?_
    refine JL_q (wants_none rfl) rfl (ex_fieldAddr fi_28_0 rfl rfl) ?_
    refine JL_q (wants_none rfl) rfl (ex_load_bx 0 ti_2 rfl rfl rfl) ?_
    refine JL_q (wants_none rfl) rfl (ex_eql rfl rfl) ?_
    refine JL_nil ?_
    refine N_then ?_
    refine J_if rfl (fun h9 => ?_) (fun h9 => ?_)
    · refine J_seq ?_
      refine J_region ?_
      refine JL_q (wants_none rfl) rfl (ex_assign rfl) ?_
      refine JL_q (wants_none rfl) rfl (ex_assign rfl) ?_
      refine JL_nil ?_
      refine N_then ?_
      refine J_ret ?_
      refine N_then_ret ?_
      refine N_inl2 hK7 rfl (rv_tmp rfl) (rv_tmp rfl) ?_
      refine JL_q (wants_none rfl) rfl (ex_move rfl) ?_
      refine JL_q (wants_none rfl) rfl (ex_extract rfl rfl) ?_
      refine JL_q (wants_none rfl) rfl (ex_extract rfl rfl) ?_
      refine JL_q (wants_none rfl) rfl (ex_assign rfl) ?_
      refine JL_q (wants_none rfl) rfl (ex_assign rfl) ?_
      refine JL_nil ?_
      refine N_then ?_
      refine J_seq ?_
      refine J_seq ?_
      refine J_region ?_
      refine JL_q (wants_none rfl) rfl (ex_move rfl) ?_
      refine JL_q (wants_none rfl) rfl (ex_not rfl) ?_
      refine JL_nil ?_
      refine N_then ?_
      refine J_if_true rfl (by rw [show (false) = false from rfl]; rfl) ?_
      refine J_seq ?_
      refine J_region ?_
      refine JL_q (wants_none rfl) rfl (ex_build si_39 rfl .nil (fun w hh => trivial)) ?_
      refine JL_sk (wants_none rfl) (sk_store_bx' 1 ti_39 rfl rfl (fun w hh => (cv_aggs ⟨cv_int, cv_slice, cv_slice, trivial⟩)) rfl rfl rfl rfl) ?_
      refine JL_q (wants_none rfl) rfl (ex_assign rfl) ?_
      refine JL_nil ?_
      refine N_then ?_
      refine J_ret ?_
      refine N_then_ret ?_
      refine N_ctx (fun w hh => SH.ow_nil (α := Int) 2 hh) ?_
      refine N_ctx (fun w hh => hh.tokf 0 rfl rfl) ?_
      refine N_ctx (fun w hh => SH.ow_nil (α := Int) 2 hh) ?_
      refine N_ctx (fun w hh => hh.tokf 0 rfl rfl) ?_
      exact N_ret2 rfl (rv_cell 5 rfl rfl ti_39 rfl) (rv_tmp rfl) (fun w hh => ⟨((.slice none 0 0 : Value), ((.slice none 0 0 : Value).ownBlock.toList ++ []), (.slice none 0 0 : Value), ((.slice none 0 0 : Value).ownBlock.toList ++ [])), rfl, hh.sel [2, 0] rfl⟩)
    · refine J_skip ?_
      refine N_then ?_
      refine J_seq ?_
      refine J_region ?_
      refine JL_q (wants_none rfl) rfl (ex_fieldAddr fi_28_0 rfl rfl) ?_
      refine JL_q (wants_none rfl) rfl (ex_load_bx 0 ti_2 rfl rfl rfl) ?_
      refine JL_q (wants_none rfl) rfl (ex_add rfl rfl) ?_
      refine JL_q (wants_none rfl) rfl (ex_build si_68 rfl .nil (fun w hh => trivial)) ?_
      refine JL_q (wants_none rfl) rfl (ex_makeFunc rfl) ?_
      refine JL_inline (wants_none rfl) rfl Try.call79 rfl Try.func79 rfl Try.ntmps79 rfl rfl (fun K_ hK10 => ?_)
      refine J_seq ?_
      refine J_region ?_
      refine JL_st (wants_none rfl) rfl (st_box' rfl (fun w hh => (cv_aggs ⟨cv_int, cv_int, cv_int, trivial⟩))) (fun b11 => ?_)
      refine JL_q (wants_none rfl) rfl (ex_assign rfl) ?_
      refine JL_q (wants_none rfl) rfl (ex_assign rfl) ?_
      refine JL_nil ?_
      refine N_then ?_
      refine J_seq ?_
      refine J_region ?_
      refine JL_q (wants_none rfl) rfl (ex_move rfl) ?_
      refine JL_q (wants_none rfl) rfl (ex_build si_28 rfl (.cons fi_28_0 rfl rfl .nil) (fun w hh => ⟨cv_int, trivial⟩)) ?_
      refine JL_st (wants_none rfl) rfl (st_makeMap (κ := GfoldPlace) (ν := Int) (enc := GfoldPlace.enc) (venc := (Value.int .i64))) (fun b12 => ?_)
      refine JL_q (wants_none rfl) rfl (ex_buildN [(0, .agg #[.int .i64 (w64 (p0.Symbols + 1)), .int .i64 0, .slice none 0 0], [.int .i64 (w64 (p0.Symbols + 1)), .int .i64 0, .slice none 0 0]), (2, .map (some b12), [.map (some b12)])] si_115 rfl (.cons fi_115_0 rfl rfl rfl (.cons fi_115_2 rfl rfl rfl .nil)) (fun w hh => ⟨(cv_aggs ⟨cv_int, cv_int, cv_slice, trivial⟩), cv_map, trivial⟩)) ?_
      refine JL_st (wants_none rfl) rfl (st_box' rfl (fun w hh => (cv_aggs ⟨cv_int, cv_int, cv_slice, cv_slice, cv_map, trivial⟩))) (fun b13 => ?_)
      refine JL_q (wants_none rfl) rfl (ex_assign rfl) ?_
      refine JL_nil ?_
      refine N_then ?_
      refine J_seq ?_
      refine J_region ?_
      refine JL_q (wants_none rfl) rfl (ex_move rfl) ?_
      refine JL_q (wants_none rfl) rfl (ex_load_bx_agg 2 ti_68 rfl rfl rfl rfl) ?_
      refine JL_inline (wants_none rfl) rfl Try.call99 rfl Try.func99 rfl Try.ntmps99 rfl rfl (fun K_ hK14 => ?_)
      refine J_seq ?_
      refine J_region ?_
      refine JL_st (wants_none rfl) rfl (st_box' rfl (fun w hh => (cv_aggs ⟨cv_int, cv_int, cv_int, trivial⟩))) (fun b15 => ?_)
      refine JL_q (wants_none rfl) rfl (ex_assign rfl) ?_
      refine JL_nil ?_
      refine N_then ?_
      refine J_seq ?_
      refine J_draw [] (by kernel_rfl) ?_
      refine JP_take (i := 0) [0, 1, 2, 3, 4, 5, 6, 7, 8, 9, 10] [] rfl (by kernel_rfl) (by kernel_rfl) (by kernel_rfl) rfl rfl (wants_none rfl) rfl (ex_move rfl) ?_
      refine JP_take (i := 1) [0, 1, 2, 3, 4, 5, 6, 7, 8, 9, 10] [] rfl (by kernel_rfl) (by kernel_rfl) (by kernel_rfl) rfl rfl (wants_none rfl) rfl (ex_nilCheck rfl) ?_
      refine JP_take (i := 2) [0, 1, 2, 3, 4, 5, 6, 7, 8, 9, 10] [] rfl (by kernel_rfl) (by kernel_rfl) (by kernel_rfl) rfl rfl (wants_none rfl) rfl (ex_fieldAddr fi_115_2 rfl rfl) ?_
      refine JP_take (i := 3) [0, 1, 2, 3, 4, 5, 6, 7, 8, 9, 10] [] rfl (by kernel_rfl) (by kernel_rfl) (by kernel_rfl) rfl rfl (wants_none rfl) rfl (ex_load_bx 1 ti_113 rfl rfl rfl) ?_
      refine JP_take (i := 4) [0, 1, 2, 3, 4, 5, 6, 7, 8, 9, 10] [] rfl (by kernel_rfl) (by kernel_rfl) (by kernel_rfl) rfl rfl (wants_none rfl) rfl (ex_load_bx_agg 0 ti_68 rfl rfl rfl rfl) ?_
      refine JP_take (i := 5) [0, 1, 2, 3, 4, 5, 6, 7, 8, 9, 10] [] rfl (by kernel_rfl) (by kernel_rfl) (by kernel_rfl) rfl rfl (wants_none rfl) rfl (ex_lookup_ok (x := (⟨0, 0, 0⟩ : GfoldPlace)) (z := 0) 2 key_68 Try.underlying113 zi_2 rfl rfl rfl rfl rfl) ?_
      refine JP_take (i := 6) [0, 1, 2, 3, 4, 5, 6, 7, 8, 9, 10] [] rfl (by kernel_rfl) (by kernel_rfl) (by kernel_rfl) rfl rfl (wants_none rfl) rfl (ex_move rfl) ?_
      refine JP_take (i := 7) [0, 1, 2, 3, 4, 5, 6, 7, 8, 9, 10] [] rfl (by kernel_rfl) (by kernel_rfl) (by kernel_rfl) rfl rfl (wants_none rfl) rfl (ex_extract rfl rfl) ?_
      refine JP_take (i := 8) [0, 1, 2, 3, 4, 5, 6, 7, 8, 9, 10] [] rfl (by kernel_rfl) (by kernel_rfl) (by kernel_rfl) rfl rfl (wants_none rfl) rfl (ex_extract rfl rfl) ?_
      refine JP_take (i := 9) [0, 1, 2, 3, 4, 5, 6, 7, 8, 9, 10] [] rfl (by kernel_rfl) (by kernel_rfl) (by kernel_rfl) rfl rfl (wants_none rfl) rfl (ex_assign rfl) ?_
      refine JP_take (i := 10) [0, 1, 2, 3, 4, 5, 6, 7, 8, 9, 10] [] rfl (by kernel_rfl) (by kernel_rfl) (by kernel_rfl) rfl rfl (wants_none rfl) rfl (ex_assign rfl) ?_
      refine JP_go [] [] rfl rfl rfl (fun _ _ _ => ?_)
      refine JD_done (by kernel_rfl) ?_
      refine N_then ?_
      refine J_seq ?_
      refine J_cut' (S' := Int × (List GfoldPlace) × List (GfoldPlace × Int)) (G' := Value) (fun s16 g17 => [(5, .int .i64 s16.1)]) (fun s16 g17 => [.rd v0_0 p0.Rules, .bx b1 28 [.int .i64 p0.Symbols, .int .i64 p0.States, v0_0], .rd v1_0 p1.Left, .rd v1_1 p1.Right, .bx b2 39 [.int .i64 p1.State, v1_0, v1_1], .bx b3 39 [.int .i64 0, .slice none 0 0, .slice none 0 0], .ow 68 g17 s16.2.1, mpf GfoldPlace.enc (Value.int .i64) b12 s16.2.2, .bx b13 115 [.int .i64 (w64 (p0.Symbols + 1)), .int .i64 0, .slice none 0 0, g17, .map (some b12)], .bx b8 28 [.int .i64 p0.Symbols, .int .i64 p0.States, v0_0]]) ?_ (fun s16 g17 => ?_)
      · refine J_seq ?_
        refine J_region ?_
        refine JL_q (wants_none rfl) rfl (ex_move rfl) ?_
        refine JL_q (wants_none rfl) rfl (ex_not rfl) ?_
        refine JL_nil ?_
        refine N_then ?_
        refine J_if rfl (fun h18 => ?_) (fun h18 => ?_)
        · refine J_seq ?_
          refine J_region ?_
          refine JL_q (wants_none rfl) rfl (ex_move rfl) ?_
          refine JL_q (wants_none rfl) rfl (ex_nilCheck rfl) ?_
          refine JL_q (wants_none rfl) rfl (ex_fieldAddr fi_115_1 rfl rfl) ?_
          refine JL_q (wants_none rfl) rfl (ex_load_bx 1 ti_112 rfl rfl rfl) ?_
          refine JL_bnd fun r19 hr20 => ?_
          refine JL_call (wants_none rfl) rfl Try.call100 rfl (Ca_of0 fun w hh => c_impl_size_impl_foldPlace _ w (fun _ hk => hk.elim) _ _ rdNil _ hr20) (fun _ => ?_)
          refine JL_q (wants_none rfl) rfl (ex_assign rfl) ?_
          refine JL_nil ?_
          refine N_then ?_
          refine J_seq ?_
          refine J_draw [2] (by kernel_rfl) ?_
          refine JP_take (i := 0) [0, 1, 3, 4, 5, 6, 7, 8, 9, 10] [2] rfl (by kernel_rfl) (by kernel_rfl) (by kernel_rfl) rfl rfl (wants_none rfl) rfl (ex_move rfl) ?_
          refine JP_take (i := 1) [0, 1, 3, 4, 5, 6, 7, 8, 9, 10] [2] rfl (by kernel_rfl) (by kernel_rfl) (by kernel_rfl) rfl rfl (wants_none rfl) rfl (ex_nilCheck rfl) ?_
          refine JP_take (i := 2) [0, 1, 3, 4, 5, 6, 7, 8, 9, 10] [2] rfl (by kernel_rfl) (by kernel_rfl) (by kernel_rfl) rfl rfl (wants_none rfl) rfl (ex_fieldAddr fi_115_2 rfl rfl) ?_
          refine JP_take (i := 3) [0, 1, 3, 4, 5, 6, 7, 8, 9, 10] [2] rfl (by kernel_rfl) (by kernel_rfl) (by kernel_rfl) rfl rfl (wants_none rfl) rfl (ex_load_bx 1 ti_113 rfl rfl rfl) ?_
          refine JP_take (i := 4) [0, 1, 3, 4, 5, 6, 7, 8, 9, 10] [2] rfl (by kernel_rfl) (by kernel_rfl) (by kernel_rfl) rfl rfl (wants_none rfl) rfl (ex_load_bx_agg 0 ti_68 rfl rfl rfl rfl) ?_
          refine JP_take (i := 5) [0, 1, 3, 4, 5, 6, 7, 8, 9, 10] [2] rfl (by kernel_rfl) (by kernel_rfl) (by kernel_rfl) rfl rfl (wants_none rfl) rfl (ex_move rfl) ?_
          refine JP_go [0, 1, 3, 4, 5, 6, 7, 8, 9, 10] [2] rfl rfl rfl (fun w22 h1_23 hp21 => ?_)
          refine JD_one (i := 6) (by kernel_rfl) ?_
          refine JO_sk rfl (wants_none rfl) (sk_mapUpdate (x := (⟨0, 0, 0⟩ : GfoldPlace)) (y := r19) 2 key_68 Try.underlying113 rfl rfl rfl rfl rfl rfl rfl rfl) (sub_mp 0 rfl) ?_
          refine JD_done (by kernel_rfl) ?_
          refine N_then ?_
          refine J_draw [1] (by kernel_rfl) ?_
          refine JP_take (i := 0) [0, 2, 3, 4, 5, 6, 7, 8, 9, 10] [1] rfl (by kernel_rfl) (by kernel_rfl) (by kernel_rfl) rfl rfl (wants_none rfl) rfl (ex_move rfl) ?_
          refine JP_take (i := 1) [0, 2, 3, 4, 5, 6, 7, 8, 9, 10] [1] rfl (by kernel_rfl) (by kernel_rfl) (by kernel_rfl) rfl rfl (wants_none rfl) rfl (ex_move rfl) ?_
          refine JP_take (i := 2) [0, 2, 3, 4, 5, 6, 7, 8, 9, 10] [1] rfl (by kernel_rfl) (by kernel_rfl) (by kernel_rfl) rfl rfl (wants_none rfl) rfl (ex_nilCheck rfl) ?_
          refine JP_take (i := 3) [0, 2, 3, 4, 5, 6, 7, 8, 9, 10] [1] rfl (by kernel_rfl) (by kernel_rfl) (by kernel_rfl) rfl rfl (wants_none rfl) rfl (ex_fieldAddr fi_115_1 rfl rfl) ?_
          refine JP_take (i := 5) [0, 2, 3, 4, 5, 6, 7, 8, 9, 10] [1] rfl (by kernel_rfl) (by kernel_rfl) (by kernel_rfl) rfl rfl (wants_none rfl) rfl (ex_load_bx_agg 0 ti_68 rfl rfl rfl rfl) ?_
          refine JP_go [0, 2, 3, 4, 5, 6, 7, 8, 9, 10] [1] rfl rfl rfl (fun w25 h1_26 hp24 => ?_)
          refine JD_two (i := 4) (j := 6) (by kernel_rfl) ?_ ?_
          · refine JO_q rfl (wants_none rfl) rfl (ex_load_bx 1 ti_112 rfl rfl rfl) ?_
            refine JD_one (i := 6) (by kernel_rfl) ?_
            refine JO_st rfl (wants_none rfl) rfl (st_buildSlice (vs := [.agg #[.int .i64 0, .int .i64 0, .int .i64 0]]) ([(⟨0, 0, 0⟩ : GfoldPlace)] : List GfoldPlace) Try.underlying112 ti_68 zi_68 rfl rfl rfl (fun w hh => ⟨(GfoldPlace.rdmk (Rd.mk_int _ _ _) (Rd.mk_int _ _ _) (Rd.mk_int _ _ _)), trivial⟩)) (fun _ hk => nomatch hk) (fun b27 => ?_)
            refine JD_bnd fun z28 hz29 => ?_
            refine JD_one (i := 7) (by kernel_rfl) ?_
            refine JO_ctx (fun w hh => SH.ow_nil (α := GfoldPlace) 68 hh) (fun _ hb => hb) ?_
            refine JO_st2 0 [1] [0, 2, 3, 4, 5, 6, 7, 8, 9, 10] [2, 4, 5, 6, 7, 8, 9, 10, 11, 12] rfl rfl rfl rfl rfl rfl (wants_none rfl) rfl (st_append 0 Try.underlying112 ti_68 zi_68 rfl bi_68 rfl rfl rfl rfl (fun w hh => hh.src_ow 1 rfl) hz29) (fun _ hk => hk) (fun v30 => ?_)
            refine JD_take (i := 8) hp24 rfl (by kernel_rfl) (by kernel_rfl) (by kernel_rfl) (wants_none rfl) rfl (ex_nilCheck rfl) ?_
            refine JD_take (i := 9) hp24 rfl (by kernel_rfl) (by kernel_rfl) (by kernel_rfl) (wants_none rfl) rfl (ex_fieldAddr fi_115_1 rfl rfl) ?_
            refine JD_one (i := 10) (by kernel_rfl) ?_
            refine JO_sk rfl (wants_none rfl) (sk_store_bx' 3 ti_112 rfl rfl (fun w hh => (hh.cv_ow 0 rfl)) rfl rfl rfl rfl) (sub_bx 0 rfl) ?_
            refine JD_done (by kernel_rfl) ?_
            exact N_meet' v30 ⟨rfl, trivial⟩ [12, 9, 11, 10, 8, 7, 0, 4, 3, 6] rfl rfl
          · refine JO_st rfl (wants_none rfl) rfl (st_buildSlice (vs := [.agg #[.int .i64 0, .int .i64 0, .int .i64 0]]) ([(⟨0, 0, 0⟩ : GfoldPlace)] : List GfoldPlace) Try.underlying112 ti_68 zi_68 rfl rfl rfl (fun w hh => ⟨(GfoldPlace.rdmk (Rd.mk_int _ _ _) (Rd.mk_int _ _ _) (Rd.mk_int _ _ _)), trivial⟩)) (fun _ hk => nomatch hk) (fun b31 => ?_)
            refine JD_one (i := 4) (by kernel_rfl) ?_
            refine JO_q rfl (wants_none rfl) rfl (ex_load_bx 2 ti_112 rfl rfl rfl) ?_
            refine JD_bnd fun z32 hz33 => ?_
            refine JD_one (i := 7) (by kernel_rfl) ?_
            refine JO_ctx (fun w hh => SH.ow_nil (α := GfoldPlace) 68 hh) (fun _ hb => hb) ?_
            refine JO_st2 0 [1] [0, 2, 3, 4, 5, 6, 7, 8, 9, 10] [2, 4, 5, 6, 7, 8, 9, 10, 11, 12] rfl rfl rfl rfl rfl rfl (wants_none rfl) rfl (st_append 0 Try.underlying112 ti_68 zi_68 rfl bi_68 rfl rfl rfl rfl (fun w hh => hh.src_ow 1 rfl) hz33) (fun _ hk => hk) (fun v34 => ?_)
            refine JD_take (i := 8) hp24 rfl (by kernel_rfl) (by kernel_rfl) (by kernel_rfl) (wants_none rfl) rfl (ex_nilCheck rfl) ?_
            refine JD_take (i := 9) hp24 rfl (by kernel_rfl) (by kernel_rfl) (by kernel_rfl) (wants_none rfl) rfl (ex_fieldAddr fi_115_1 rfl rfl) ?_
            refine JD_one (i := 10) (by kernel_rfl) ?_
            refine JO_sk rfl (wants_none rfl) (sk_store_bx' 3 ti_112 rfl rfl (fun w hh => (hh.cv_ow 0 rfl)) rfl rfl rfl rfl) (sub_bx 0 rfl) ?_
            refine JD_done (by kernel_rfl) ?_
            exact N_meet' v34 ⟨rfl, trivial⟩ [12, 9, 11, 10, 8, 7, 0, 4, 3, 6] rfl rfl
        · refine J_skip ?_
          refine N_ctx (fun w hh => SH.ow_nil (α := GfoldPlace) 68 hh) ?_
          exact N_meet' (.slice none 0 0 : Value) ⟨rfl, trivial⟩ [11, 8, 10, 9, 7, 6, 0, 3, 2, 5] rfl rfl
      · refine N_then ?_
        refine J_seq ?_
        refine J_region ?_
        refine JL_q (wants_none rfl) rfl (ex_move rfl) ?_
        refine JL_q (wants_none rfl) rfl (ex_assign rfl) ?_
        refine JL_nil ?_
        refine N_then ?_
        refine J_ret ?_
        refine N_inl1 hK14 rfl (rv_tmp rfl) ?_
        refine JL_nil ?_
        refine N_then ?_
        refine J_seq ?_
        refine J_seq ?_
        refine J_region ?_
        refine JL_q (wants_none rfl) rfl (ex_assign rfl) ?_
        refine JL_nil ?_
        refine N_then ?_
        refine J_ctx (fun w hh => SH.ow_nil (α := GRule) 97 hh) ?_
        refine J_loop' (S := (List GRule) × (List GfoldPlace) × List (GfoldPlace × Int) × Int) (G := Value × Value) (F_impl_FoldConfig_L1 p0) (fun s35 g36 => [(0, .int .i64 (w64 (p0.Symbols + 1))), (2, .func (.func 80) #[] #[.pointer (some ⟨b8, 0, none⟩)]), (8, .pointer (some ⟨b13, 0, none⟩)), (9, .int .i64 s35.2.2.2)]) (fun s35 g36 => [.rd v0_0 p0.Rules, .bx b8 28 [.int .i64 p0.Symbols, .int .i64 p0.States, v0_0], .ow 97 g36.1 s35.1, .ow 68 g36.2 s35.2.1, mpf GfoldPlace.enc (Value.int .i64) b12 s35.2.2.1, .bx b13 115 [.int .i64 (w64 (p0.Symbols + 1)), .int .i64 0, g36.1, g36.2, .map (some b12)], .bx b1 28 [.int .i64 p0.Symbols, .int .i64 p0.States, v0_0], .rd v1_0 p1.Left, .rd v1_1 p1.Right, .bx b2 39 [.int .i64 p1.State, v1_0, v1_1], .bx b3 39 [.int .i64 0, .slice none 0 0, .slice none 0 0]]) (([] : (List GRule)), s16.2.1, s16.2.2, 0) ((.slice none 0 0 : Value), g17) ⟨rfl, rfl, rfl, rfl, trivial⟩ [1, 10, 0, 7, 8, 9, 2, 3, 4, 5, 6] rfl rfl (fun s35 g36 => ?_) (fun s35 g36 => ?_)
        · obtain ⟨g36_0, g36_1⟩ := g36
          unfold F_impl_FoldConfig_L1
          refine J_seq ?_
          refine J_seq ?_
          refine J_region ?_
          refine JL_q (wants_none rfl) rfl (ex_move rfl) ?_
          refine JL_q (wants_none rfl) rfl (ex_move rfl) ?_
          refine JL_q (wants_none rfl) rfl (ex_nilCheck rfl) ?_
          refine JL_q (wants_none rfl) rfl (ex_fieldAddr fi_115_1 rfl rfl) ?_
          refine JL_q (wants_none rfl) rfl (ex_load_bx 5 ti_112 rfl rfl rfl) ?_
          refine JL_q (wants_none rfl) rfl (ex_len_ow 3 Try.underlying112 rfl rfl) ?_
          refine JL_q (wants_none rfl) rfl (ex_lss rfl rfl) ?_
          refine JL_nil ?_
          refine N_then ?_
          refine J_if rfl (fun h37 => ?_) (fun h37 => ?_)
          · refine J_skip ?_
            refine N_then ?_
            refine J_seq ?_
            refine J_block ?_
            refine J_seq ?_
            refine J_seq ?_
            refine J_region ?_
            refine JL_q (wants_none rfl) rfl (ex_move rfl) ?_
            refine JL_q (wants_none rfl) rfl (ex_move rfl) ?_
            refine JL_nil ?_
            refine N_then ?_
            refine J_loop' (S := (List GRule) × (List GfoldPlace) × List (GfoldPlace × Int) × Int) (G := Value × Value) (F_impl_FoldConfig_L2 p0 s35) (fun s38 g39 => [(0, .int .i64 (w64 (p0.Symbols + 1))), (2, .func (.func 80) #[] #[.pointer (some ⟨b8, 0, none⟩)]), (8, .pointer (some ⟨b13, 0, none⟩)), (9, .int .i64 s35.2.2.2), (30, .int .i64 (w64 (p0.Symbols + 1))), (31, .int .i64 s38.2.2.2)]) (fun s38 g39 => [.rd v0_0 p0.Rules, .bx b8 28 [.int .i64 p0.Symbols, .int .i64 p0.States, v0_0], .ow 97 g39.1 s38.1, .ow 68 g39.2 s38.2.1, mpf GfoldPlace.enc (Value.int .i64) b12 s38.2.2.1, .bx b13 115 [.int .i64 (w64 (p0.Symbols + 1)), .int .i64 0, g39.1, g39.2, .map (some b12)], .bx b1 28 [.int .i64 p0.Symbols, .int .i64 p0.States, v0_0], .rd v1_0 p1.Left, .rd v1_1 p1.Right, .bx b2 39 [.int .i64 p1.State, v1_0, v1_1], .bx b3 39 [.int .i64 0, .slice none 0 0, .slice none 0 0]]) (s35.1, s35.2.1, s35.2.2.1, 0) (g36_0, g36_1) ⟨rfl, rfl, rfl, rfl, rfl, rfl, trivial⟩ [0, 1, 2, 3, 4, 5, 6, 7, 8, 9, 10] rfl rfl (fun s38 g39 => ?_) (fun s38 g39 => ?_)
            · obtain ⟨g39_0, g39_1⟩ := g39
              unfold F_impl_FoldConfig_L2
              refine J_seq ?_
              refine J_region ?_
              refine JL_q (wants_none rfl) rfl (ex_lss rfl rfl) ?_
              refine JL_nil ?_
              refine N_then ?_
              refine J_seq ?_
              refine J_if rfl (fun h40 => ?_) (fun h40 => ?_)
              · refine J_skip ?_
                refine N_then ?_
                refine J_seq ?_
                refine J_block ?_
                refine J_seq ?_
                refine J_region ?_
                refine JL_q (wants_none rfl) rfl (ex_move rfl) ?_
                refine JL_q (wants_none rfl) rfl (ex_assign rfl) ?_
                refine JL_nil ?_
                refine N_then ?_
                refine J_seq ?_
                refine J_region ?_
                refine JL_bnd fun r41 hr42 => ?_
                refine JL_call (wants_none rfl) rfl Try.call97 rfl (Ca_of0 fun w hh => c_impl_noRule _ w (fun _ hk => hk.elim)  _ hr42) (fun _ => ?_)
                refine JL_st (wants_none rfl) rfl (st_alloc zi_97 rfl) (fun b43 => ?_)
                refine JL_sk (wants_none rfl) (sk_store_bx' 0 ti_97 rfl rfl (fun w hh => (cv_aggs ⟨cv_int, cv_int, cv_int, trivial⟩)) rfl rfl rfl rfl) ?_
                refine JL_nil ?_
                refine N_then ?_
                refine J_seq ?_
                refine J_cut' (S' := (List GfoldPlace) × List (GfoldPlace × Int) × Int × Int × Int) (G' := Value) (fun s44 g45 => [(0, .int .i64 (w64 (p0.Symbols + 1))), (2, .func (.func 80) #[] #[.pointer (some ⟨b8, 0, none⟩)]), (8, .pointer (some ⟨b13, 0, none⟩)), (9, .int .i64 s35.2.2.2), (11, .pointer (some ⟨b43, 0, none⟩)), (30, .int .i64 (w64 (p0.Symbols + 1))), (31, .int .i64 s38.2.2.2)]) (fun s44 g45 => [.rd v0_0 p0.Rules, .bx b8 28 [.int .i64 p0.Symbols, .int .i64 p0.States, v0_0], .ow 97 g39_0 s38.1, .ow 68 g45 s44.1, mpf GfoldPlace.enc (Value.int .i64) b12 s44.2.1, .bx b13 115 [.int .i64 (w64 (p0.Symbols + 1)), .int .i64 0, g39_0, g45, .map (some b12)], .bx b43 97 [.int .i64 s44.2.2.1, .int .i64 s44.2.2.2.1, .int .i64 s44.2.2.2.2], .bx b1 28 [.int .i64 p0.Symbols, .int .i64 p0.States, v0_0], .rd v1_0 p1.Left, .rd v1_1 p1.Right, .bx b2 39 [.int .i64 p1.State, v1_0, v1_1], .bx b3 39 [.int .i64 0, .slice none 0 0, .slice none 0 0]]) ?_ (fun s44 g45 => ?_)
                · refine J_seq ?_
                  refine J_region ?_
                  refine JL_q (wants_none rfl) rfl (ex_move rfl) ?_
                  refine JL_q (wants_none rfl) rfl (ex_move rfl) ?_
                  refine JL_q (wants_none rfl) rfl (ex_nilCheck rfl) ?_
                  refine JL_q (wants_none rfl) rfl (ex_fieldAddr fi_115_1 rfl rfl) ?_
                  refine JL_q (wants_none rfl) rfl (ex_load_bx 6 ti_112 rfl rfl rfl) ?_
                  refine JL_q (wants_none rfl) rfl (ex_move rfl) ?_
                  refine JL_bnd fun y46 hy47 => ?_
                  refine JL_ow_open (v := g39_1) 4 rfl hy47 ?_; rintro b48 cap49 rfl
                  refine JL_q (wants_none rfl) rfl (ex_index_ow 4 Try.underlying112 ti_68 rfl rfl rfl hy47) ?_
                  refine JL_st (wants_none rfl) rfl (st_load_ow_o 4 (GfoldPlace.opens _) ti_68 rfl rfl hy47) (fun _ => ?_)
                  refine JL_q (wants_none rfl) rfl (ex_move rfl) ?_
                  refine JL_bnd fun r51 hr52 => ?_
                  refine JL_callv (args := [_, _]) (caps := [.pointer (some ⟨b8, 0, none⟩)]) (wants_none rfl) rfl Try.call80 rfl rfl (Ca_of0 fun w hh => c_impl_folded_1 nowhere w (fun _ hk => hk.elim) _ _ (GfoldPlace.rdmk (Rd.mk_int _ _ _) (Rd.mk_int _ _ _) (Rd.mk_int _ _ _)) _ _ _ (hh.bx_pa 2 rfl (GMachine.rdmk (Rd.mk_int _ _ _) (Rd.mk_int _ _ _) (hh.rd0 1 rfl)) rfl) _ hr52) (fun _ => ?_)
                  refine JL_st (wants_none rfl) rfl (st_alloc zi_118 rfl) (fun b53 => ?_)
                  refine JL_sk (wants_none rfl) (sk_store_bx' 0 ti_118 rfl rfl (fun w hh => (cv_aggs ⟨cv_int, cv_int, cv_int, cv_int, cv_int, cv_bool, trivial⟩)) rfl rfl rfl rfl) ?_
                  refine JL_nil ?_
                  refine N_then ?_
                  refine J_seq ?_
                  refine J_region ?_
                  refine JL_q (wants_none rfl) rfl (ex_fieldAddr fi_118_3 rfl rfl) ?_
                  refine JL_q (wants_none rfl) rfl (ex_load_bx 0 ti_4 rfl rfl rfl) ?_
                  refine JL_q (wants_none rfl) rfl (ex_not rfl) ?_
                  refine JL_nil ?_
                  refine N_then ?_
                  refine J_if rfl (fun h54 => ?_) (fun h54 => ?_)
                  · refine J_draw [1, 4, 5, 6, 7] (by kernel_rfl) ?_
                    refine JP_take (i := 0) [0, 2, 3, 8, 9, 10, 11, 12] [1, 4, 5, 6, 7] rfl (by kernel_rfl) (by kernel_rfl) (by kernel_rfl) rfl rfl (wants_none rfl) rfl (ex_fieldAddr fi_118_0 rfl rfl) ?_
                    refine JP_take (i := 1) [0, 2, 3, 8, 9, 10, 11, 12] [1, 4, 5, 6, 7] rfl (by kernel_rfl) (by kernel_rfl) (by kernel_rfl) rfl rfl (wants_none rfl) rfl (ex_load_bx 0 ti_2 rfl rfl rfl) ?_
                    refine JP_take (i := 2) [0, 2, 3, 8, 9, 10, 11, 12] [1, 4, 5, 6, 7] rfl (by kernel_rfl) (by kernel_rfl) (by kernel_rfl) rfl rfl (wants_none rfl) rfl (ex_fieldAddr fi_118_1 rfl rfl) ?_
                    refine JP_take (i := 3) [0, 2, 3, 8, 9, 10, 11, 12] [1, 4, 5, 6, 7] rfl (by kernel_rfl) (by kernel_rfl) (by kernel_rfl) rfl rfl (wants_none rfl) rfl (ex_load_bx 0 ti_2 rfl rfl rfl) ?_
                    refine JP_take (i := 4) [0, 2, 3, 8, 9, 10, 11, 12] [1, 4, 5, 6, 7] rfl (by kernel_rfl) (by kernel_rfl) (by kernel_rfl) rfl rfl (wants_none rfl) rfl (ex_move rfl) ?_
                    refine JP_take (i := 5) [0, 2, 3, 8, 9, 10, 11, 12] [1, 4, 5, 6, 7] rfl (by kernel_rfl) (by kernel_rfl) (by kernel_rfl) rfl rfl (wants_none rfl) rfl (ex_fieldAddr fi_118_2 rfl rfl) ?_
                    refine JP_take (i := 6) [0, 2, 3, 8, 9, 10, 11, 12] [1, 4, 5, 6, 7] rfl (by kernel_rfl) (by kernel_rfl) (by kernel_rfl) rfl rfl (wants_none rfl) rfl (ex_load_bx_agg 0 ti_68 rfl rfl rfl rfl) ?_
                    refine JP_go [0, 2, 3, 8, 9, 10, 11, 12] [1, 4, 5, 6, 7] rfl rfl rfl (fun w56 h1_57 hp55 => ?_)
                    refine JD_one (i := 7) (by kernel_rfl) ?_
                    refine JO_inline h1_57 [1, 4, 5, 6, 7] [0, 3, 8, 11, 12] rfl rfl rfl rfl (wants_none rfl) rfl Try.call99 rfl Try.func99 rfl Try.ntmps99 rfl rfl (fun C59 K_ hK58 => ?_)
                    refine J_seq ?_
                    refine J_region ?_
                    refine JL_st (wants_none rfl) rfl (st_box' rfl (fun w hh => (cv_aggs ⟨cv_int, cv_int, cv_int, trivial⟩))) (fun b60 => ?_)
                    refine JL_q (wants_none rfl) rfl (ex_assign rfl) ?_
                    refine JL_nil ?_
                    refine N_then ?_
                    refine J_seq ?_
                    refine J_draw [] (by kernel_rfl) ?_
                    refine JP_take (i := 0) [0, 1, 2, 3, 4, 5, 6, 7, 8, 9, 10, 11, 12, 13, 14] [] rfl (by kernel_rfl) (by kernel_rfl) (by kernel_rfl) rfl rfl (wants_none rfl) rfl (ex_move rfl) ?_
                    refine JP_take (i := 1) [0, 1, 2, 3, 4, 5, 6, 7, 8, 9, 10, 11, 12, 13, 14] [] rfl (by kernel_rfl) (by kernel_rfl) (by kernel_rfl) rfl rfl (wants_none rfl) rfl (ex_nilCheck rfl) ?_
                    refine JP_take (i := 2) [0, 1, 2, 3, 4, 5, 6, 7, 8, 9, 10, 11, 12, 13, 14] [] rfl (by kernel_rfl) (by kernel_rfl) (by kernel_rfl) rfl rfl (wants_none rfl) rfl (ex_fieldAddr fi_115_2 rfl rfl) ?_
                    refine JP_take (i := 3) [0, 1, 2, 3, 4, 5, 6, 7, 8, 9, 10, 11, 12, 13, 14] [] rfl (by kernel_rfl) (by kernel_rfl) (by kernel_rfl) rfl rfl (wants_none rfl) rfl (ex_load_bx 9 ti_113 rfl rfl rfl) ?_
                    refine JP_take (i := 4) [0, 1, 2, 3, 4, 5, 6, 7, 8, 9, 10, 11, 12, 13, 14] [] rfl (by kernel_rfl) (by kernel_rfl) (by kernel_rfl) rfl rfl (wants_none rfl) rfl (ex_load_bx_agg 0 ti_68 rfl rfl rfl rfl) ?_
                    refine JP_take (i := 5) [0, 1, 2, 3, 4, 5, 6, 7, 8, 9, 10, 11, 12, 13, 14] [] rfl (by kernel_rfl) (by kernel_rfl) (by kernel_rfl) rfl rfl (wants_none rfl) rfl (ex_lookup_ok (x := (⟨r51.next_kind, r51.next_q, r51.next_half⟩ : GfoldPlace)) (z := 0) 8 key_68 Try.underlying113 zi_2 rfl rfl rfl rfl rfl) ?_
                    refine JP_take (i := 6) [0, 1, 2, 3, 4, 5, 6, 7, 8, 9, 10, 11, 12, 13, 14] [] rfl (by kernel_rfl) (by kernel_rfl) (by kernel_rfl) rfl rfl (wants_none rfl) rfl (ex_move rfl) ?_
                    refine JP_take (i := 7) [0, 1, 2, 3, 4, 5, 6, 7, 8, 9, 10, 11, 12, 13, 14] [] rfl (by kernel_rfl) (by kernel_rfl) (by kernel_rfl) rfl rfl (wants_none rfl) rfl (ex_extract rfl rfl) ?_
                    refine JP_take (i := 8) [0, 1, 2, 3, 4, 5, 6, 7, 8, 9, 10, 11, 12, 13, 14] [] rfl (by kernel_rfl) (by kernel_rfl) (by kernel_rfl) rfl rfl (wants_none rfl) rfl (ex_extract rfl rfl) ?_
                    refine JP_take (i := 9) [0, 1, 2, 3, 4, 5, 6, 7, 8, 9, 10, 11, 12, 13, 14] [] rfl (by kernel_rfl) (by kernel_rfl) (by kernel_rfl) rfl rfl (wants_none rfl) rfl (ex_assign rfl) ?_
                    refine JP_take (i := 10) [0, 1, 2, 3, 4, 5, 6, 7, 8, 9, 10, 11, 12, 13, 14] [] rfl (by kernel_rfl) (by kernel_rfl) (by kernel_rfl) rfl rfl (wants_none rfl) rfl (ex_assign rfl) ?_
                    refine JP_go [] [] rfl rfl rfl (fun _ _ _ => ?_)
                    refine JD_done (by kernel_rfl) ?_
                    refine N_then ?_
                    refine J_seq ?_
                    refine J_seq ?_
                    refine J_region ?_
                    refine JL_q (wants_none rfl) rfl (ex_move rfl) ?_
                    refine JL_q (wants_none rfl) rfl (ex_not rfl) ?_
                    refine JL_nil ?_
                    refine N_then ?_
                    refine J_if rfl (fun h61 => ?_) (fun h61 => ?_)
                    · refine J_seq ?_
                      refine J_region ?_
                      refine JL_q (wants_none rfl) rfl (ex_move rfl) ?_
                      refine JL_q (wants_none rfl) rfl (ex_nilCheck rfl) ?_
                      refine JL_q (wants_none rfl) rfl (ex_fieldAddr fi_115_1 rfl rfl) ?_
                      refine JL_q (wants_none rfl) rfl (ex_load_bx 9 ti_112 rfl rfl rfl) ?_
                      refine JL_bnd fun r62 hr63 => ?_
                      refine JL_call (wants_none rfl) rfl Try.call100 rfl (Ca_of0 fun w hh => c_impl_size_impl_foldPlace _ w (fun _ hk => hk.elim) _ _ (hh.ow0 7 rfl) _ hr63) (fun _ => ?_)
                      refine JL_q (wants_none rfl) rfl (ex_assign rfl) ?_
                      refine JL_nil ?_
                      refine N_then ?_
                      refine J_seq ?_
                      refine J_draw [8] (by kernel_rfl) ?_
                      refine JP_take (i := 0) [0, 1, 2, 3, 4, 5, 6, 7, 9, 10, 11, 12, 13, 14] [8] rfl (by kernel_rfl) (by kernel_rfl) (by kernel_rfl) rfl rfl (wants_none rfl) rfl (ex_move rfl) ?_
                      refine JP_take (i := 1) [0, 1, 2, 3, 4, 5, 6, 7, 9, 10, 11, 12, 13, 14] [8] rfl (by kernel_rfl) (by kernel_rfl) (by kernel_rfl) rfl rfl (wants_none rfl) rfl (ex_nilCheck rfl) ?_
                      refine JP_take (i := 2) [0, 1, 2, 3, 4, 5, 6, 7, 9, 10, 11, 12, 13, 14] [8] rfl (by kernel_rfl) (by kernel_rfl) (by kernel_rfl) rfl rfl (wants_none rfl) rfl (ex_fieldAddr fi_115_2 rfl rfl) ?_
                      refine JP_take (i := 3) [0, 1, 2, 3, 4, 5, 6, 7, 9, 10, 11, 12, 13, 14] [8] rfl (by kernel_rfl) (by kernel_rfl) (by kernel_rfl) rfl rfl (wants_none rfl) rfl (ex_load_bx 8 ti_113 rfl rfl rfl) ?_
                      refine JP_take (i := 4) [0, 1, 2, 3, 4, 5, 6, 7, 9, 10, 11, 12, 13, 14] [8] rfl (by kernel_rfl) (by kernel_rfl) (by kernel_rfl) rfl rfl (wants_none rfl) rfl (ex_load_bx_agg 0 ti_68 rfl rfl rfl rfl) ?_
                      refine JP_take (i := 5) [0, 1, 2, 3, 4, 5, 6, 7, 9, 10, 11, 12, 13, 14] [8] rfl (by kernel_rfl) (by kernel_rfl) (by kernel_rfl) rfl rfl (wants_none rfl) rfl (ex_move rfl) ?_
                      refine JP_go [0, 1, 2, 3, 4, 5, 6, 7, 9, 10, 11, 12, 13, 14] [8] rfl rfl rfl (fun w65 h1_66 hp64 => ?_)
                      refine JD_one (i := 6) (by kernel_rfl) ?_
                      refine JO_sk rfl (wants_none rfl) (sk_mapUpdate (x := (⟨r51.next_kind, r51.next_q, r51.next_half⟩ : GfoldPlace)) (y := r62) 8 key_68 Try.underlying113 rfl rfl rfl rfl rfl rfl rfl rfl) (sub_mp 0 rfl) ?_
                      refine JD_done (by kernel_rfl) ?_
                      refine N_then ?_
                      refine J_draw [7, 9] (by kernel_rfl) ?_
                      refine JP_take (i := 0) [0, 1, 2, 3, 4, 5, 6, 8, 10, 11, 12, 13, 14] [7, 9] rfl (by kernel_rfl) (by kernel_rfl) (by kernel_rfl) rfl rfl (wants_none rfl) rfl (ex_move rfl) ?_
                      refine JP_take (i := 1) [0, 1, 2, 3, 4, 5, 6, 8, 10, 11, 12, 13, 14] [7, 9] rfl (by kernel_rfl) (by kernel_rfl) (by kernel_rfl) rfl rfl (wants_none rfl) rfl (ex_move rfl) ?_
                      refine JP_take (i := 2) [0, 1, 2, 3, 4, 5, 6, 8, 10, 11, 12, 13, 14] [7, 9] rfl (by kernel_rfl) (by kernel_rfl) (by kernel_rfl) rfl rfl (wants_none rfl) rfl (ex_nilCheck rfl) ?_
                      refine JP_take (i := 3) [0, 1, 2, 3, 4, 5, 6, 8, 10, 11, 12, 13, 14] [7, 9] rfl (by kernel_rfl) (by kernel_rfl) (by kernel_rfl) rfl rfl (wants_none rfl) rfl (ex_fieldAddr fi_115_1 rfl rfl) ?_
                      refine JP_take (i := 5) [0, 1, 2, 3, 4, 5, 6, 8, 10, 11, 12, 13, 14] [7, 9] rfl (by kernel_rfl) (by kernel_rfl) (by kernel_rfl) rfl rfl (wants_none rfl) rfl (ex_load_bx_agg 0 ti_68 rfl rfl rfl rfl) ?_
                      refine JP_go [0, 1, 2, 3, 4, 5, 6, 8, 10, 11, 12, 13, 14] [7, 9] rfl rfl rfl (fun w68 h1_69 hp67 => ?_)
                      refine JD_two (i := 4) (j := 6) (by kernel_rfl) ?_ ?_
                      · refine JO_q rfl (wants_none rfl) rfl (ex_load_bx 9 ti_112 rfl rfl rfl) ?_
                        refine JD_one (i := 6) (by kernel_rfl) ?_
                        refine JO_st rfl (wants_none rfl) rfl (st_buildSlice (vs := [.agg #[.int .i64 r51.next_kind, .int .i64 r51.next_q, .int .i64 r51.next_half]]) ([(⟨r51.next_kind, r51.next_q, r51.next_half⟩ : GfoldPlace)] : List GfoldPlace) Try.underlying112 ti_68 zi_68 rfl rfl rfl (fun w hh => ⟨(GfoldPlace.rdmk (Rd.mk_int _ _ _) (Rd.mk_int _ _ _) (Rd.mk_int _ _ _)), trivial⟩)) (fun _ hk => nomatch hk) (fun b70 => ?_)
                        refine JD_bnd fun z71 hz72 => ?_
                        refine JD_one (i := 7) (by kernel_rfl) ?_
                        refine JO_st rfl (wants_none rfl) rfl (st_append 8 Try.underlying112 ti_68 zi_68 rfl bi_68 rfl rfl rfl rfl (fun w hh => hh.src_ow 0 rfl) hz72) (sub_ow 0 rfl) (fun v73 => ?_)
                        refine JD_take (i := 8) hp67 rfl (by kernel_rfl) (by kernel_rfl) (by kernel_rfl) (wants_none rfl) rfl (ex_nilCheck rfl) ?_
                        refine JD_take (i := 9) hp67 rfl (by kernel_rfl) (by kernel_rfl) (by kernel_rfl) (wants_none rfl) rfl (ex_fieldAddr fi_115_1 rfl rfl) ?_
                        refine JD_one (i := 10) (by kernel_rfl) ?_
                        refine JO_sk rfl (wants_none rfl) (sk_store_bx' 10 ti_112 rfl rfl (fun w hh => (hh.cv_ow 8 rfl)) rfl rfl rfl rfl) (sub_bx 1 rfl) ?_
                        refine JD_done (by kernel_rfl) ?_
                        refine N_then ?_
                        refine J_seq ?_
                        refine J_region ?_
                        refine JL_q (wants_none rfl) rfl (ex_move rfl) ?_
                        refine JL_q (wants_none rfl) rfl (ex_assign rfl) ?_
                        refine JL_nil ?_
                        refine N_then ?_
                        refine J_ret ?_
                        refine N_inlD1 hK58 rfl (rv_tmp rfl) 2 [3, 6, 11, 14, 15] rfl rfl ?_
                        refine JD_take (i := 8) hp55 rfl (by kernel_rfl) (by kernel_rfl) (by kernel_rfl) (wants_none rfl) rfl (ex_build si_97 rfl (.cons fi_97_0 rfl rfl (.cons fi_97_1 rfl rfl (.cons fi_97_2 rfl rfl .nil))) (fun w hh => ⟨cv_int, cv_int, cv_int, trivial⟩)) ?_
                        refine JD_one (i := 9) (by kernel_rfl) ?_
                        refine JO_sk rfl (wants_none rfl) (sk_store_bx' 4 ti_97 rfl rfl (fun w hh => (cv_aggs ⟨cv_int, cv_int, cv_int, trivial⟩)) rfl rfl rfl rfl) (sub_bx 0 rfl) ?_
                        refine JD_done (by kernel_rfl) ?_
                        exact N_meet' v73 ⟨rfl, rfl, rfl, rfl, rfl, rfl, rfl, trivial⟩ [5, 6, 7, 8, 9, 10, 4, 11, 12, 13, 14, 15] rfl rfl
                      · refine JO_st rfl (wants_none rfl) rfl (st_buildSlice (vs := [.agg #[.int .i64 r51.next_kind, .int .i64 r51.next_q, .int .i64 r51.next_half]]) ([(⟨r51.next_kind, r51.next_q, r51.next_half⟩ : GfoldPlace)] : List GfoldPlace) Try.underlying112 ti_68 zi_68 rfl rfl rfl (fun w hh => ⟨(GfoldPlace.rdmk (Rd.mk_int _ _ _) (Rd.mk_int _ _ _) (Rd.mk_int _ _ _)), trivial⟩)) (fun _ hk => nomatch hk) (fun b74 => ?_)
                        refine JD_one (i := 4) (by kernel_rfl) ?_
                        refine JO_q rfl (wants_none rfl) rfl (ex_load_bx 10 ti_112 rfl rfl rfl) ?_
                        refine JD_bnd fun z75 hz76 => ?_
                        refine JD_one (i := 7) (by kernel_rfl) ?_
                        refine JO_st rfl (wants_none rfl) rfl (st_append 8 Try.underlying112 ti_68 zi_68 rfl bi_68 rfl rfl rfl rfl (fun w hh => hh.src_ow 0 rfl) hz76) (sub_ow 0 rfl) (fun v77 => ?_)
                        refine JD_take (i := 8) hp67 rfl (by kernel_rfl) (by kernel_rfl) (by kernel_rfl) (wants_none rfl) rfl (ex_nilCheck rfl) ?_
                        refine JD_take (i := 9) hp67 rfl (by kernel_rfl) (by kernel_rfl) (by kernel_rfl) (wants_none rfl) rfl (ex_fieldAddr fi_115_1 rfl rfl) ?_
                        refine JD_one (i := 10) (by kernel_rfl) ?_
                        refine JO_sk rfl (wants_none rfl) (sk_store_bx' 10 ti_112 rfl rfl (fun w hh => (hh.cv_ow 8 rfl)) rfl rfl rfl rfl) (sub_bx 1 rfl) ?_
                        refine JD_done (by kernel_rfl) ?_
                        refine N_then ?_
                        refine J_seq ?_
                        refine J_region ?_
                        refine JL_q (wants_none rfl) rfl (ex_move rfl) ?_
                        refine JL_q (wants_none rfl) rfl (ex_assign rfl) ?_
                        refine JL_nil ?_
                        refine N_then ?_
                        refine J_ret ?_
                        refine N_inlD1 hK58 rfl (rv_tmp rfl) 2 [3, 6, 11, 14, 15] rfl rfl ?_
                        refine JD_take (i := 8) hp55 rfl (by kernel_rfl) (by kernel_rfl) (by kernel_rfl) (wants_none rfl) rfl (ex_build si_97 rfl (.cons fi_97_0 rfl rfl (.cons fi_97_1 rfl rfl (.cons fi_97_2 rfl rfl .nil))) (fun w hh => ⟨cv_int, cv_int, cv_int, trivial⟩)) ?_
                        refine JD_one (i := 9) (by kernel_rfl) ?_
                        refine JO_sk rfl (wants_none rfl) (sk_store_bx' 4 ti_97 rfl rfl (fun w hh => (cv_aggs ⟨cv_int, cv_int, cv_int, trivial⟩)) rfl rfl rfl rfl) (sub_bx 0 rfl) ?_
                        refine JD_done (by kernel_rfl) ?_
                        exact N_meet' v77 ⟨rfl, rfl, rfl, rfl, rfl, rfl, rfl, trivial⟩ [5, 6, 7, 8, 9, 10, 4, 11, 12, 13, 14, 15] rfl rfl
                    · refine J_skip ?_
                      refine N_then ?_
                      refine J_seq ?_
                      refine J_region ?_
                      refine JL_q (wants_none rfl) rfl (ex_move rfl) ?_
                      refine JL_q (wants_none rfl) rfl (ex_assign rfl) ?_
                      refine JL_nil ?_
                      refine N_then ?_
                      refine J_ret ?_
                      refine N_inlD1 hK58 rfl (rv_tmp rfl) 1 [2, 5, 10, 13, 14] rfl rfl ?_
                      refine JD_take (i := 8) hp55 rfl (by kernel_rfl) (by kernel_rfl) (by kernel_rfl) (wants_none rfl) rfl (ex_build si_97 rfl (.cons fi_97_0 rfl rfl (.cons fi_97_1 rfl rfl (.cons fi_97_2 rfl rfl .nil))) (fun w hh => ⟨cv_int, cv_int, cv_int, trivial⟩)) ?_
                      refine JD_one (i := 9) (by kernel_rfl) ?_
                      refine JO_sk rfl (wants_none rfl) (sk_store_bx' 3 ti_97 rfl rfl (fun w hh => (cv_aggs ⟨cv_int, cv_int, cv_int, trivial⟩)) rfl rfl rfl rfl) (sub_bx 0 rfl) ?_
                      refine JD_done (by kernel_rfl) ?_
                      exact N_meet' (.slice (some ⟨b48, 0, none⟩) s38.2.1.length cap49) ⟨rfl, rfl, rfl, rfl, rfl, rfl, rfl, trivial⟩ [4, 5, 6, 7, 8, 9, 3, 10, 11, 12, 13, 14] rfl rfl
                  · refine J_skip ?_
                    exact N_meet' (.slice (some ⟨b48, 0, none⟩) s38.2.1.length cap49) ⟨rfl, rfl, rfl, rfl, rfl, rfl, rfl, trivial⟩ [2, 3, 4, 5, 6, 7, 1, 8, 9, 10, 11, 12] rfl rfl
                · refine N_then ?_
                  refine J_draw [2, 5] (by kernel_rfl) ?_
                  refine JP_take (i := 0) [0, 1, 3, 4, 6, 7, 8, 9, 10, 11] [2, 5] rfl (by kernel_rfl) (by kernel_rfl) (by kernel_rfl) rfl rfl (wants_none rfl) rfl (ex_move rfl) ?_
                  refine JP_take (i := 1) [0, 1, 3, 4, 6, 7, 8, 9, 10, 11] [2, 5] rfl (by kernel_rfl) (by kernel_rfl) (by kernel_rfl) rfl rfl (wants_none rfl) rfl (ex_move rfl) ?_
                  refine JP_take (i := 2) [0, 1, 3, 4, 6, 7, 8, 9, 10, 11] [2, 5] rfl (by kernel_rfl) (by kernel_rfl) (by kernel_rfl) rfl rfl (wants_none rfl) rfl (ex_nilCheck rfl) ?_
                  refine JP_take (i := 3) [0, 1, 3, 4, 6, 7, 8, 9, 10, 11] [2, 5] rfl (by kernel_rfl) (by kernel_rfl) (by kernel_rfl) rfl rfl (wants_none rfl) rfl (ex_fieldAddr fi_115_0 rfl rfl) ?_
                  refine JP_take (i := 4) [0, 1, 3, 4, 6, 7, 8, 9, 10, 11] [2, 5] rfl (by kernel_rfl) (by kernel_rfl) (by kernel_rfl) rfl rfl (wants_none rfl) rfl (ex_fieldAddr fi_28_2 rfl rfl) ?_
                  refine JP_take (i := 6) [0, 1, 3, 4, 6, 7, 8, 9, 10, 11] [2, 5] rfl (by kernel_rfl) (by kernel_rfl) (by kernel_rfl) rfl rfl (wants_none rfl) rfl (ex_load_bx_agg 4 ti_97 rfl rfl rfl rfl) ?_
                  refine JP_go [0, 1, 3, 4, 6, 7, 8, 9, 10, 11] [2, 5] rfl rfl rfl (fun w79 h1_80 hp78 => ?_)
                  refine JD_two (i := 5) (j := 7) (by kernel_rfl) ?_ ?_
                  · refine JO_q rfl (wants_none rfl) rfl (ex_load_bx 5 ti_26 rfl rfl rfl) ?_
                    refine JD_one (i := 7) (by kernel_rfl) ?_
                    refine JO_st rfl (wants_none rfl) rfl (st_buildSlice (vs := [.agg #[.int .i64 s44.2.2.1, .int .i64 s44.2.2.2.1, .int .i64 s44.2.2.2.2]]) ([(⟨s44.2.2.1, s44.2.2.2.1, s44.2.2.2.2⟩ : GRule)] : List GRule) Try.underlying26 ti_97 zi_97 rfl rfl rfl (fun w hh => ⟨(GRule.rdmk (Rd.mk_int _ _ _) (Rd.mk_int _ _ _) (Rd.mk_int _ _ _)), trivial⟩)) (fun _ hk => nomatch hk) (fun b81 => ?_)
                    refine JD_bnd fun z82 hz83 => ?_
                    refine JD_one (i := 8) (by kernel_rfl) ?_
                    refine JO_st rfl (wants_none rfl) rfl (st_append 3 Try.underlying26 ti_97 zi_97 rfl bi_97 rfl rfl rfl rfl (fun w hh => hh.src_ow 0 rfl) hz83) (sub_ow 0 rfl) (fun v84 => ?_)
                    refine JD_take (i := 9) hp78 rfl (by kernel_rfl) (by kernel_rfl) (by kernel_rfl) (wants_none rfl) rfl (ex_nilCheck rfl) ?_
                    refine JD_take (i := 10) hp78 rfl (by kernel_rfl) (by kernel_rfl) (by kernel_rfl) (wants_none rfl) rfl (ex_fieldAddr fi_115_0 rfl rfl) ?_
                    refine JD_take (i := 11) hp78 rfl (by kernel_rfl) (by kernel_rfl) (by kernel_rfl) (wants_none rfl) rfl (ex_fieldAddr fi_28_2 rfl rfl) ?_
                    refine JD_one (i := 12) (by kernel_rfl) ?_
                    refine JO_sk rfl (wants_none rfl) (sk_store_bx' 6 ti_26 rfl rfl (fun w hh => (hh.cv_ow 3 rfl)) rfl rfl rfl rfl) (sub_bx 1 rfl) ?_
                    refine JD_done (by kernel_rfl) ?_
                    refine N_block ?_
                    refine N_then ?_
                    refine J_region ?_
                    refine JL_q (wants_none rfl) rfl (ex_add rfl rfl) ?_
                    refine JL_q (wants_none rfl) rfl (ex_move rfl) ?_
                    refine JL_nil ?_
                    exact N_next' (v84, g45) ⟨rfl, rfl, rfl, rfl, rfl, rfl, trivial⟩ [1, 2, 3, 4, 5, 6, 8, 9, 10, 11, 12] rfl rfl
                  · refine JO_st rfl (wants_none rfl) rfl (st_buildSlice (vs := [.agg #[.int .i64 s44.2.2.1, .int .i64 s44.2.2.2.1, .int .i64 s44.2.2.2.2]]) ([(⟨s44.2.2.1, s44.2.2.2.1, s44.2.2.2.2⟩ : GRule)] : List GRule) Try.underlying26 ti_97 zi_97 rfl rfl rfl (fun w hh => ⟨(GRule.rdmk (Rd.mk_int _ _ _) (Rd.mk_int _ _ _) (Rd.mk_int _ _ _)), trivial⟩)) (fun _ hk => nomatch hk) (fun b85 => ?_)
                    refine JD_one (i := 5) (by kernel_rfl) ?_
                    refine JO_q rfl (wants_none rfl) rfl (ex_load_bx 6 ti_26 rfl rfl rfl) ?_
                    refine JD_bnd fun z86 hz87 => ?_
                    refine JD_one (i := 8) (by kernel_rfl) ?_
                    refine JO_st rfl (wants_none rfl) rfl (st_append 3 Try.underlying26 ti_97 zi_97 rfl bi_97 rfl rfl rfl rfl (fun w hh => hh.src_ow 0 rfl) hz87) (sub_ow 0 rfl) (fun v88 => ?_)
                    refine JD_take (i := 9) hp78 rfl (by kernel_rfl) (by kernel_rfl) (by kernel_rfl) (wants_none rfl) rfl (ex_nilCheck rfl) ?_
                    refine JD_take (i := 10) hp78 rfl (by kernel_rfl) (by kernel_rfl) (by kernel_rfl) (wants_none rfl) rfl (ex_fieldAddr fi_115_0 rfl rfl) ?_
                    refine JD_take (i := 11) hp78 rfl (by kernel_rfl) (by kernel_rfl) (by kernel_rfl) (wants_none rfl) rfl (ex_fieldAddr fi_28_2 rfl rfl) ?_
                    refine JD_one (i := 12) (by kernel_rfl) ?_
                    refine JO_sk rfl (wants_none rfl) (sk_store_bx' 6 ti_26 rfl rfl (fun w hh => (hh.cv_ow 3 rfl)) rfl rfl rfl rfl) (sub_bx 1 rfl) ?_
                    refine JD_done (by kernel_rfl) ?_
                    refine N_block ?_
                    refine N_then ?_
                    refine J_region ?_
                    refine JL_q (wants_none rfl) rfl (ex_add rfl rfl) ?_
                    refine JL_q (wants_none rfl) rfl (ex_move rfl) ?_
                    refine JL_nil ?_
                    exact N_next' (v88, g45) ⟨rfl, rfl, rfl, rfl, rfl, rfl, trivial⟩ [1, 2, 3, 4, 5, 6, 8, 9, 10, 11, 12] rfl rfl
              · refine J_exit ?_
                refine N_then_exit ?_
                exact N_break' (g39_0, g39_1) ⟨rfl, rfl, rfl, rfl, rfl, rfl, trivial⟩ [0, 1, 2, 3, 4, 5, 6, 7, 8, 9, 10] rfl rfl
            · obtain ⟨g39_0, g39_1⟩ := g39
              refine N_then ?_
              refine J_seq ?_
              refine J_region ?_
              refine JL_q (wants_none rfl) rfl (ex_move rfl) ?_
              refine JL_q (wants_none rfl) rfl (ex_nilCheck rfl) ?_
              refine JL_q (wants_none rfl) rfl (ex_fieldAddr fi_115_1 rfl rfl) ?_
              refine JL_q (wants_none rfl) rfl (ex_load_bx 5 ti_112 rfl rfl rfl) ?_
              refine JL_q (wants_none rfl) rfl (ex_len_ow 3 Try.underlying112 rfl rfl) ?_
              refine JL_q (wants_none rfl) rfl (ex_gtr rfl rfl) ?_
              refine JL_nil ?_
              refine N_then ?_
              refine J_if rfl (fun h89 => ?_) (fun h89 => ?_)
              · refine J_seq ?_
                refine J_region ?_
                refine JL_q (wants_none rfl) rfl (ex_assign rfl) ?_
                refine JL_q (wants_none rfl) rfl (ex_assign rfl) ?_
                refine JL_nil ?_
                refine N_then ?_
                refine J_ret ?_
                refine N_block_ret ?_
                refine N_then_ret ?_
                refine N_round_reti ?_
                refine N_then_ret ?_
                refine N_inl2 hK10 rfl (rv_tmp rfl) (rv_tmp rfl) ?_
                refine JL_q (wants_none rfl) rfl (ex_extract rfl rfl) ?_
                refine JL_q (wants_none rfl) rfl (ex_extract rfl rfl) ?_
                refine JL_q (wants_none rfl) rfl (ex_assign rfl) ?_
                refine JL_q (wants_none rfl) rfl (ex_assign rfl) ?_
                refine JL_nil ?_
                refine N_then ?_
                refine J_ret ?_
                refine N_inl2 hK7 rfl (rv_tmp rfl) (rv_tmp rfl) ?_
                refine JL_q (wants_none rfl) rfl (ex_move rfl) ?_
                refine JL_q (wants_none rfl) rfl (ex_extract rfl rfl) ?_
                refine JL_q (wants_none rfl) rfl (ex_extract rfl rfl) ?_
                refine JL_q (wants_none rfl) rfl (ex_assign rfl) ?_
                refine JL_q (wants_none rfl) rfl (ex_assign rfl) ?_
                refine JL_nil ?_
                refine N_then ?_
                refine J_seq ?_
                refine J_seq ?_
                refine J_region ?_
                refine JL_q (wants_none rfl) rfl (ex_move rfl) ?_
                refine JL_q (wants_none rfl) rfl (ex_not rfl) ?_
                refine JL_nil ?_
                refine N_then ?_
                refine J_if_true rfl (by rw [show (false) = false from rfl]; rfl) ?_
                refine J_seq ?_
                refine J_region ?_
                refine JL_q (wants_none rfl) rfl (ex_build si_39 rfl .nil (fun w hh => trivial)) ?_
                refine JL_sk (wants_none rfl) (sk_store_bx' 10 ti_39 rfl rfl (fun w hh => (cv_aggs ⟨cv_int, cv_slice, cv_slice, trivial⟩)) rfl rfl rfl rfl) ?_
                refine JL_q (wants_none rfl) rfl (ex_assign rfl) ?_
                refine JL_nil ?_
                refine N_then ?_
                refine J_ret ?_
                refine N_then_ret ?_
                refine N_ctx (fun w hh => SH.ow_nil (α := Int) 2 hh) ?_
                refine N_ctx (fun w hh => hh.tokf 0 rfl rfl) ?_
                refine N_ctx (fun w hh => SH.ow_nil (α := Int) 2 hh) ?_
                refine N_ctx (fun w hh => hh.tokf 0 rfl rfl) ?_
                exact N_ret2 rfl (rv_cell 14 rfl rfl ti_39 rfl) (rv_tmp rfl) (fun w hh => ⟨((.slice none 0 0 : Value), ((.slice none 0 0 : Value).ownBlock.toList ++ []), (.slice none 0 0 : Value), ((.slice none 0 0 : Value).ownBlock.toList ++ [])), rfl, hh.sel [2, 0] rfl⟩)
              · refine J_skip ?_
                refine N_block ?_
                refine N_then ?_
                refine J_region ?_
                refine JL_q (wants_none rfl) rfl (ex_move rfl) ?_
                refine JL_q (wants_none rfl) rfl (ex_add rfl rfl) ?_
                refine JL_q (wants_none rfl) rfl (ex_assign rfl) ?_
                refine JL_nil ?_
                exact N_next' (g39_0, g39_1) ⟨rfl, rfl, rfl, rfl, trivial⟩ [0, 1, 2, 3, 4, 5, 6, 7, 8, 9, 10] rfl rfl
          · refine J_exit ?_
            refine N_then_exit ?_
            exact N_break' (g36_0, g36_1) ⟨rfl, rfl, rfl, rfl, trivial⟩ [0, 1, 2, 3, 4, 5, 6, 7, 8, 9, 10] rfl rfl
        · obtain ⟨g36_0, g36_1⟩ := g36
          refine N_then ?_
          refine J_seq ?_
          refine J_region ?_
          refine JL_q (wants_none rfl) rfl (ex_move rfl) ?_
          refine JL_q (wants_none rfl) rfl (ex_move rfl) ?_
          refine JL_q (wants_none rfl) rfl (ex_nilCheck rfl) ?_
          refine JL_q (wants_none rfl) rfl (ex_fieldAddr fi_115_1 rfl rfl) ?_
          refine JL_q (wants_none rfl) rfl (ex_load_bx 5 ti_112 rfl rfl rfl) ?_
          refine JL_bnd fun r90 hr91 => ?_
          refine JL_call (wants_none rfl) rfl Try.call100 rfl (Ca_of0 fun w hh => c_impl_size_impl_foldPlace _ w (fun _ hk => hk.elim) _ _ (hh.ow0 3 rfl) _ hr91) (fun _ => ?_)
          refine JL_q (wants_none rfl) rfl (ex_nilCheck rfl) ?_
          refine JL_q (wants_none rfl) rfl (ex_fieldAddr fi_115_0 rfl rfl) ?_
          refine JL_q (wants_none rfl) rfl (ex_fieldAddr fi_28_1 rfl rfl) ?_
          refine JL_sk (wants_none rfl) (sk_store_bx' 5 ti_2 rfl rfl (fun w hh => cv_int) rfl rfl rfl rfl) ?_
          refine JL_nil ?_
          refine N_then ?_
          refine J_seq ?_
          refine J_region ?_
          refine JL_q (wants_none rfl) rfl (ex_move rfl) ?_
          refine JL_q (wants_none rfl) rfl (ex_assign rfl) ?_
          refine JL_q (wants_none rfl) rfl (ex_assign rfl) ?_
          refine JL_nil ?_
          refine N_then ?_
          refine J_ret ?_
          refine N_inl2 hK10 rfl (rv_tmp rfl) (rv_tmp rfl) ?_
          refine JL_q (wants_none rfl) rfl (ex_extract rfl rfl) ?_
          refine JL_q (wants_none rfl) rfl (ex_extract rfl rfl) ?_
          refine JL_q (wants_none rfl) rfl (ex_assign rfl) ?_
          refine JL_q (wants_none rfl) rfl (ex_assign rfl) ?_
          refine JL_nil ?_
          refine N_then ?_
          refine J_ret ?_
          refine N_inl2 hK7 rfl (rv_tmp rfl) (rv_tmp rfl) ?_
          refine JL_q (wants_none rfl) rfl (ex_move rfl) ?_
          refine JL_q (wants_none rfl) rfl (ex_extract rfl rfl) ?_
          refine JL_q (wants_none rfl) rfl (ex_extract rfl rfl) ?_
          refine JL_q (wants_none rfl) rfl (ex_assign rfl) ?_
          refine JL_q (wants_none rfl) rfl (ex_assign rfl) ?_
          refine JL_nil ?_
          refine N_then ?_
          refine J_seq ?_
          refine J_seq ?_
          refine J_region ?_
          refine JL_q (wants_none rfl) rfl (ex_move rfl) ?_
          refine JL_q (wants_none rfl) rfl (ex_not rfl) ?_
          refine JL_nil ?_
          refine N_then ?_
          refine J_if_false rfl (by rw [show (true) = true from rfl]; rfl) ?_
          refine J_skip ?_
          refine N_then ?_
          refine J_seq ?_
          refine J_region ?_
          refine JL_st (wants_none rfl) rfl (st_buildSlice (vs := []) ([] : List Int) Try.underlying35 ti_2 zi_2 rfl rfl rfl (fun w hh => trivial)) (fun b92 => ?_)
          refine JL_q (wants_none rfl) rfl (ex_assign rfl) ?_
          refine JL_nil ?_
          refine N_then ?_
          refine J_seq ?_
          refine J_seq ?_
          refine J_region ?_
          refine JL_q (wants_none rfl) rfl (ex_fieldAddr fi_39_1 rfl rfl) ?_
          refine JL_q (wants_none rfl) rfl (ex_load_bx 10 ti_35 rfl rfl rfl) ?_
          refine JL_q (wants_none rfl) rfl (ex_len_rd 8 Try.underlying35 rfl rfl) ?_
          refine JL_q (wants_none rfl) rfl (ex_fieldAddr fi_39_2 rfl rfl) ?_
          refine JL_q (wants_none rfl) rfl (ex_load_bx 10 ti_35 rfl rfl rfl) ?_
          refine JL_q (wants_none rfl) rfl (ex_len_rd 9 Try.underlying35 rfl rfl) ?_
          refine JL_q (wants_none rfl) rfl (ex_max rfl rfl) ?_
          refine JL_q (wants_none rfl) rfl (ex_move rfl) ?_
          refine JL_nil ?_
          refine N_then ?_
          refine J_loop' (S := (List Int) × Int) (G := Value) (F_impl_FoldConfig_L3 p1) (fun s93 g94 => [(2, .pointer (some ⟨b1, 0, none⟩)), (3, .pointer (some ⟨b2, 0, none⟩)), (4, .pointer (some ⟨b3, 0, none⟩)), (6, .pointer (some ⟨b13, 0, none⟩)), (8, g94), (30, .int .i64 (if (p1.Right.length : Int) > (p1.Left.length : Int) then (p1.Right.length : Int) else (p1.Left.length : Int))), (31, .int .i64 s93.2)]) (fun s93 g94 => [.rd v0_0 p0.Rules, .bx b1 28 [.int .i64 p0.Symbols, .int .i64 p0.States, v0_0], .rd v1_0 p1.Left, .rd v1_1 p1.Right, .bx b2 39 [.int .i64 p1.State, v1_0, v1_1], .bx b3 39 [.int .i64 0, .slice none 0 0, .slice none 0 0], .ow 97 g36_0 s35.1, .ow 68 g36_1 s35.2.1, mpf GfoldPlace.enc (Value.int .i64) b12 s35.2.2.1, .bx b13 115 [.int .i64 (w64 (p0.Symbols + 1)), .int .i64 r90, g36_0, g36_1, .map (some b12)], .ow 2 g94 s93.1]) (([] : List Int), 0) (.slice (some ⟨b92, 0, none⟩) 0 0) ⟨rfl, rfl, rfl, rfl, rfl, rfl, rfl, trivial⟩ [1, 7, 8, 9, 10, 11, 3, 4, 5, 6, 0] rfl rfl (fun s93 g94 => ?_) (fun s93 g94 => ?_)
          · unfold F_impl_FoldConfig_L3
            refine J_seq ?_
            refine J_region ?_
            refine JL_q (wants_none rfl) rfl (ex_lss rfl rfl) ?_
            refine JL_nil ?_
            refine N_then ?_
            refine J_seq ?_
            refine J_if rfl (fun h95 => ?_) (fun h95 => ?_)
            · refine J_skip ?_
              refine N_then ?_
              refine J_seq ?_
              refine J_block ?_
              refine J_seq ?_
              refine J_region ?_
              refine JL_q (wants_none rfl) rfl (ex_move rfl) ?_
              refine JL_q (wants_none rfl) rfl (ex_assign rfl) ?_
              refine JL_nil ?_
              refine N_then ?_
              refine J_draw [10] (by kernel_rfl) ?_
              refine JP_take (i := 0) [0, 1, 2, 3, 4, 5, 6, 7, 8, 9] [10] rfl (by kernel_rfl) (by kernel_rfl) (by kernel_rfl) rfl rfl (wants_none rfl) rfl (ex_move rfl) ?_
              refine JP_take (i := 1) [0, 1, 2, 3, 4, 5, 6, 7, 8, 9] [10] rfl (by kernel_rfl) (by kernel_rfl) (by kernel_rfl) rfl rfl (wants_none rfl) rfl (ex_fieldAddr fi_39_2 rfl rfl) ?_
              refine JP_take (i := 2) [0, 1, 2, 3, 4, 5, 6, 7, 8, 9] [10] rfl (by kernel_rfl) (by kernel_rfl) (by kernel_rfl) rfl rfl (wants_none rfl) rfl (ex_load_bx 4 ti_35 rfl rfl rfl) ?_
              refine JP_take (i := 3) [0, 1, 2, 3, 4, 5, 6, 7, 8, 9] [10] rfl (by kernel_rfl) (by kernel_rfl) (by kernel_rfl) rfl rfl (wants_none rfl) rfl (ex_move rfl) ?_
              refine JP_take (i := 5) [0, 1, 2, 3, 4, 5, 6, 7, 8, 9] [10] rfl (by kernel_rfl) (by kernel_rfl) (by kernel_rfl) rfl rfl (wants_none rfl) rfl (ex_fieldAddr fi_39_1 rfl rfl) ?_
              refine JP_take (i := 6) [0, 1, 2, 3, 4, 5, 6, 7, 8, 9] [10] rfl (by kernel_rfl) (by kernel_rfl) (by kernel_rfl) rfl rfl (wants_none rfl) rfl (ex_load_bx 4 ti_35 rfl rfl rfl) ?_
              refine JP_take (i := 7) [0, 1, 2, 3, 4, 5, 6, 7, 8, 9] [10] rfl (by kernel_rfl) (by kernel_rfl) (by kernel_rfl) rfl rfl (wants_none rfl) rfl (ex_move rfl) ?_
              refine JP_go [0, 1, 2, 3, 4, 5, 6, 7, 8, 9] [10] rfl rfl rfl (fun w97 h1_98 hp96 => ?_)
              refine JD_bnd fun r99 hr100 => ?_
              refine JD_one (i := 4) (by kernel_rfl) ?_
              refine JO_call rfl (wants_none rfl) rfl Try.call48 rfl (Ca_of0 fun w hh => c_impl_symbolAt _ w (fun _ hk => hk.elim) _ _ (hh.rd0 3 rfl) _ _ hr100) (fun _ => ?_)
              refine JD_bnd fun r101 hr102 => ?_
              refine JD_one (i := 8) (by kernel_rfl) ?_
              refine JO_call rfl (wants_none rfl) rfl Try.call48 rfl (Ca_of0 fun w hh => c_impl_symbolAt _ w (fun _ hk => hk.elim) _ _ (hh.rd0 2 rfl) _ _ hr102) (fun _ => ?_)
              refine JD_one (i := 9) (by kernel_rfl) ?_
              refine JO_st rfl (wants_none rfl) rfl (st_buildSlice (vs := [.int .i64 r99, .int .i64 r101]) ([r99, r101] : List Int) Try.underlying35 ti_2 zi_2 rfl rfl rfl (fun w hh => ⟨(Rd.mk_int _ _ _), (Rd.mk_int _ _ _), trivial⟩)) (fun _ hk => nomatch hk) (fun b103 => ?_)
              refine JD_bnd fun z104 hz105 => ?_
              refine JD_one (i := 10) (by kernel_rfl) ?_
              refine JO_st rfl (wants_none rfl) rfl (st_append 11 Try.underlying35 ti_2 zi_2 rfl bi_2 rfl rfl rfl rfl (fun w hh => hh.src_ow 0 rfl) hz105) (sub_ow 0 rfl) (fun v106 => ?_)
              refine JD_take (i := 11) hp96 rfl (by kernel_rfl) (by kernel_rfl) (by kernel_rfl) (wants_none rfl) rfl (ex_assign rfl) ?_
              refine JD_done (by kernel_rfl) ?_
              refine N_block ?_
              refine N_then ?_
              refine J_region ?_
              refine JL_q (wants_none rfl) rfl (ex_add rfl rfl) ?_
              refine JL_q (wants_none rfl) rfl (ex_move rfl) ?_
              refine JL_nil ?_
              exact N_next' v106 ⟨rfl, rfl, rfl, rfl, rfl, rfl, rfl, trivial⟩ [1, 2, 3, 4, 5, 6, 7, 8, 9, 10, 11] rfl rfl
            · refine J_exit ?_
              refine N_then_exit ?_
              exact N_break' g94 ⟨rfl, rfl, rfl, rfl, rfl, rfl, rfl, trivial⟩ [0, 1, 2, 3, 4, 5, 6, 7, 8, 9, 10] rfl rfl
          · refine N_then ?_
            refine J_seq ?_
            refine J_region ?_
            refine JL_q (wants_none rfl) rfl (ex_move rfl) ?_
            refine JL_q (wants_none rfl) rfl (ex_fieldAddr fi_39_0 rfl rfl) ?_
            refine JL_q (wants_none rfl) rfl (ex_load_bx 4 ti_2 rfl rfl rfl) ?_
            refine JL_q (wants_none rfl) rfl (ex_build si_68 rfl (.cons fi_68_1 rfl rfl .nil) (fun w hh => ⟨cv_int, trivial⟩)) ?_
            refine JL_q (wants_none rfl) rfl (ex_fieldAddr fi_28_0 rfl rfl) ?_
            refine JL_q (wants_none rfl) rfl (ex_load_bx 1 ti_2 rfl rfl rfl) ?_
            refine JL_st (wants_none rfl) rfl (st_buildSlice (vs := [.int .i64 p0.Symbols]) ([p0.Symbols] : List Int) Try.underlying35 ti_2 zi_2 rfl rfl rfl (fun w hh => ⟨(Rd.mk_int _ _ _), trivial⟩)) (fun b107 => ?_)
            refine JL_q (wants_none rfl) rfl (ex_move rfl) ?_
            refine JL_inline (wants_none rfl) rfl Try.call49 rfl Try.func49 rfl Try.ntmps49 rfl rfl (fun K_ hK108 => ?_)
            refine J_seq ?_
            refine J_region ?_
            refine JL_st (wants_none rfl) rfl (st_box' rfl (fun w hh => (cv_aggs ⟨cv_int, cv_int, cv_int, trivial⟩))) (fun b109 => ?_)
            refine JL_st (wants_none rfl) rfl (st_alloc zi_39 rfl) (fun b110 => ?_)
            refine JL_q (wants_none rfl) rfl (ex_assign rfl) ?_
            refine JL_nil ?_
            refine N_then ?_
            refine J_seq ?_
            refine J_draw [] (by kernel_rfl) ?_
            refine JP_take (i := 0) [0, 1, 2, 3, 4, 5, 6, 7, 8, 9, 10, 11, 12, 13] [] rfl (by kernel_rfl) (by kernel_rfl) (by kernel_rfl) rfl rfl (wants_none rfl) rfl (ex_move rfl) ?_
            refine JP_take (i := 1) [0, 1, 2, 3, 4, 5, 6, 7, 8, 9, 10, 11, 12, 13] [] rfl (by kernel_rfl) (by kernel_rfl) (by kernel_rfl) rfl rfl (wants_none rfl) rfl (ex_nilCheck rfl) ?_
            refine JP_take (i := 2) [0, 1, 2, 3, 4, 5, 6, 7, 8, 9, 10, 11, 12, 13] [] rfl (by kernel_rfl) (by kernel_rfl) (by kernel_rfl) rfl rfl (wants_none rfl) rfl (ex_fieldAddr fi_115_2 rfl rfl) ?_
            refine JP_take (i := 3) [0, 1, 2, 3, 4, 5, 6, 7, 8, 9, 10, 11, 12, 13] [] rfl (by kernel_rfl) (by kernel_rfl) (by kernel_rfl) rfl rfl (wants_none rfl) rfl (ex_load_bx 12 ti_113 rfl rfl rfl) ?_
            refine JP_take (i := 4) [0, 1, 2, 3, 4, 5, 6, 7, 8, 9, 10, 11, 12, 13] [] rfl (by kernel_rfl) (by kernel_rfl) (by kernel_rfl) rfl rfl (wants_none rfl) rfl (ex_load_bx_agg 1 ti_68 rfl rfl rfl rfl) ?_
            refine JP_take (i := 5) [0, 1, 2, 3, 4, 5, 6, 7, 8, 9, 10, 11, 12, 13] [] rfl (by kernel_rfl) (by kernel_rfl) (by kernel_rfl) rfl rfl (wants_none rfl) rfl (ex_lookup_ok (x := (⟨0, p1.State, 0⟩ : GfoldPlace)) (z := 0) 11 key_68 Try.underlying113 zi_2 rfl rfl rfl rfl rfl) ?_
            refine JP_take (i := 6) [0, 1, 2, 3, 4, 5, 6, 7, 8, 9, 10, 11, 12, 13] [] rfl (by kernel_rfl) (by kernel_rfl) (by kernel_rfl) rfl rfl (wants_none rfl) rfl (ex_move rfl) ?_
            refine JP_take (i := 7) [0, 1, 2, 3, 4, 5, 6, 7, 8, 9, 10, 11, 12, 13] [] rfl (by kernel_rfl) (by kernel_rfl) (by kernel_rfl) rfl rfl (wants_none rfl) rfl (ex_extract rfl rfl) ?_
            refine JP_take (i := 8) [0, 1, 2, 3, 4, 5, 6, 7, 8, 9, 10, 11, 12, 13] [] rfl (by kernel_rfl) (by kernel_rfl) (by kernel_rfl) rfl rfl (wants_none rfl) rfl (ex_extract rfl rfl) ?_
            refine JP_take (i := 9) [0, 1, 2, 3, 4, 5, 6, 7, 8, 9, 10, 11, 12, 13] [] rfl (by kernel_rfl) (by kernel_rfl) (by kernel_rfl) rfl rfl (wants_none rfl) rfl (ex_assign rfl) ?_
            refine JP_take (i := 10) [0, 1, 2, 3, 4, 5, 6, 7, 8, 9, 10, 11, 12, 13] [] rfl (by kernel_rfl) (by kernel_rfl) (by kernel_rfl) rfl rfl (wants_none rfl) rfl (ex_assign rfl) ?_
            refine JP_go [] [] rfl rfl rfl (fun _ _ _ => ?_)
            refine JD_done (by kernel_rfl) ?_
            refine N_then ?_
            refine J_seq ?_
            refine J_seq ?_
            refine J_region ?_
            refine JL_q (wants_none rfl) rfl (ex_move rfl) ?_
            refine JL_q (wants_none rfl) rfl (ex_not rfl) ?_
            refine JL_nil ?_
            refine N_then ?_
            refine J_if rfl (fun h111 => ?_) (fun h111 => ?_)
            · refine J_seq ?_
              refine J_region ?_
              refine JL_q (wants_none rfl) rfl (ex_build si_39 rfl .nil (fun w hh => trivial)) ?_
              refine JL_sk (wants_none rfl) (sk_store_bx' 0 ti_39 rfl rfl (fun w hh => (cv_aggs ⟨cv_int, cv_slice, cv_slice, trivial⟩)) rfl rfl rfl rfl) ?_
              refine JL_q (wants_none rfl) rfl (ex_assign rfl) ?_
              refine JL_nil ?_
              refine N_then ?_
              refine J_ret ?_
              refine N_then_ret ?_
              refine N_inl2 hK108 rfl (rv_cell 0 rfl rfl ti_39 rfl) (rv_tmp rfl) ?_
              refine JL_q (wants_none rfl) rfl (ex_extract rfl rfl) ?_
              refine JL_q (wants_none rfl) rfl (ex_extract rfl rfl) ?_
              refine JL_sk (wants_none rfl) (sk_store_bx' 8 ti_39 rfl rfl (fun w hh => (cv_aggs ⟨cv_int, cv_slice, cv_slice, trivial⟩)) rfl rfl rfl rfl) ?_
              refine JL_q (wants_none rfl) rfl (ex_assign rfl) ?_
              refine JL_nil ?_
              refine N_then ?_
              refine J_ret ?_
              refine N_ctx (fun w hh => SH.ow_nil (α := Int) 2 hh) ?_
              refine N_ctx (fun w hh => hh.tokf 0 rfl rfl) ?_
              refine N_ctx (fun w hh => SH.ow_nil (α := Int) 2 hh) ?_
              refine N_ctx (fun w hh => hh.tokf 0 rfl rfl) ?_
              exact N_ret2 rfl (rv_cell 12 rfl rfl ti_39 rfl) (rv_tmp rfl) (fun w hh => ⟨((.slice none 0 0 : Value), ((.slice none 0 0 : Value).ownBlock.toList ++ []), (.slice none 0 0 : Value), ((.slice none 0 0 : Value).ownBlock.toList ++ [])), rfl, hh.sel [2, 0] rfl⟩)
            · refine J_skip ?_
              refine N_then ?_
              refine J_seq ?_
              refine J_region ?_
              refine JL_q (wants_none rfl) rfl (ex_move rfl) ?_
              refine JL_q (wants_none rfl) rfl (ex_move rfl) ?_
              refine JL_bnd fun r112 hr113 => ?_
              refine JL_call (wants_none rfl) rfl Try.call84 rfl (Ca_self (fun _ => rfl) fun w hh => c_impl_trimmed _ w (fun _ hk => hk.elim) _ _ (hh.ow0 2 rfl) _ hr113) (fun x114 => ?_)
              refine JL_ctx (fun w hh => hh.tokf 3 rfl rfl) ?_
              refine JL_ctx (fun w hh => hh.sub_rd 4 rfl (hh.pr 1 rfl)) ?_
              refine JL_ctx (fun w hh => hh.sub_tkn 1 rfl (hh.pr 2 rfl)) ?_
              refine JL_q (wants_none rfl) rfl (ex_move rfl) ?_
              refine JL_bnd fun r115 hr116 => ?_
              refine JL_call (wants_none rfl) rfl Try.call84 rfl (Ca_self (fun _ => rfl) fun w hh => c_impl_trimmed _ w (fun _ hk => hk.elim) _ _ (hh.ow0 16 rfl) _ hr116) (fun x117 => ?_)
              refine JL_ctx (fun w hh => hh.tokf 17 rfl rfl) ?_
              refine JL_ctx (fun w hh => hh.sub_rd 18 rfl (hh.pr 1 rfl)) ?_
              refine JL_ctx (fun w hh => hh.sub_tkn 1 rfl (hh.pr 2 rfl)) ?_
              refine JL_q (wants_none rfl) rfl (ex_build si_39 rfl (.cons fi_39_0 rfl rfl (.cons fi_39_1 rfl rfl (.cons fi_39_2 rfl rfl .nil))) (fun w hh => ⟨cv_int, (hh.cv 3 rfl), (hh.cv 0 rfl), trivial⟩)) ?_
              refine JL_st (wants_none rfl) rfl (st_alloc zi_39 rfl) (fun b118 => ?_)
              refine JL_sk (wants_none rfl) (sk_store_bx' 0 ti_39 rfl rfl (fun w hh => (cv_aggs ⟨cv_int, (hh.cv 4 rfl), (hh.cv 1 rfl), trivial⟩)) rfl rfl rfl rfl) ?_
              refine JL_nil ?_
              refine N_then ?_
              refine J_seq ?_
              refine J_seq ?_
              refine J_draw [] (by kernel_rfl) ?_
              refine JP_take (i := 0) [0, 1, 2, 3, 4, 5, 6, 7, 8, 9, 10, 11, 12, 13, 14, 15, 16, 17, 18, 19, 20] [] rfl (by kernel_rfl) (by kernel_rfl) (by kernel_rfl) rfl rfl (wants_none rfl) rfl (ex_move rfl) ?_
              refine JP_take (i := 1) [0, 1, 2, 3, 4, 5, 6, 7, 8, 9, 10, 11, 12, 13, 14, 15, 16, 17, 18, 19, 20] [] rfl (by kernel_rfl) (by kernel_rfl) (by kernel_rfl) rfl rfl (wants_none rfl) rfl (ex_nilCheck rfl) ?_
              refine JP_take (i := 2) [0, 1, 2, 3, 4, 5, 6, 7, 8, 9, 10, 11, 12, 13, 14, 15, 16, 17, 18, 19, 20] [] rfl (by kernel_rfl) (by kernel_rfl) (by kernel_rfl) rfl rfl (wants_none rfl) rfl (ex_fieldAddr fi_115_0 rfl rfl) ?_
              refine JP_take (i := 3) [0, 1, 2, 3, 4, 5, 6, 7, 8, 9, 10, 11, 12, 13, 14, 15, 16, 17, 18, 19, 20] [] rfl (by kernel_rfl) (by kernel_rfl) (by kernel_rfl) rfl rfl (wants_none rfl) rfl (ex_load_bx_agg 19 ti_28 rfl rfl rfl rfl) ?_
              refine JP_take (i := 4) [0, 1, 2, 3, 4, 5, 6, 7, 8, 9, 10, 11, 12, 13, 14, 15, 16, 17, 18, 19, 20] [] rfl (by kernel_rfl) (by kernel_rfl) (by kernel_rfl) rfl rfl (wants_none rfl) rfl (ex_load_bx_agg 0 ti_39 rfl rfl rfl rfl) ?_
              refine JP_go [0, 1, 2, 3, 4, 5, 6, 7, 8, 9, 10, 11, 12, 13, 14, 15, 16, 17, 18, 19, 20] [] rfl rfl rfl (fun w120 h1_121 hp119 => ?_)
              refine JD_bnd fun r122 hr123 => ?_
              refine JD_one (i := 5) (by kernel_rfl) ?_
              refine JO_call rfl (wants_none rfl) rfl Try.call63 rfl (Ca_of0 fun w hh => c_impl_configOf _ w (fun _ hk => hk.elim) _ _ (GMachine.rdmk (Rd.mk_int _ _ _) (Rd.mk_int _ _ _) (hh.ow0 16 rfl)) _ _ (GConfig.rdmk (Rd.mk_int _ _ _) (hh.rd0 4 rfl) (hh.rd0 1 rfl)) _ hr123) (fun _ => ?_)
              refine JD_take (i := 6) hp119 rfl (by kernel_rfl) (by kernel_rfl) (by kernel_rfl) (wants_none rfl) rfl (ex_not rfl) ?_
              refine JD_done (by kernel_rfl) ?_
              refine N_then ?_
              refine J_if rfl (fun h124 => ?_) (fun h124 => ?_)
              · refine J_seq ?_
                refine J_region ?_
                refine JL_q (wants_none rfl) rfl (ex_build si_39 rfl .nil (fun w hh => trivial)) ?_
                refine JL_sk (wants_none rfl) (sk_store_bx' 7 ti_39 rfl rfl (fun w hh => (cv_aggs ⟨cv_int, cv_slice, cv_slice, trivial⟩)) rfl rfl rfl rfl) ?_
                refine JL_q (wants_none rfl) rfl (ex_assign rfl) ?_
                refine JL_nil ?_
                refine N_then ?_
                refine J_ret ?_
                refine N_then_ret ?_
                refine N_inl2 hK108 rfl (rv_cell 7 rfl rfl ti_39 rfl) (rv_tmp rfl) ?_
                refine JL_q (wants_none rfl) rfl (ex_extract rfl rfl) ?_
                refine JL_q (wants_none rfl) rfl (ex_extract rfl rfl) ?_
                refine JL_sk (wants_none rfl) (sk_store_bx' 15 ti_39 rfl rfl (fun w hh => (cv_aggs ⟨cv_int, cv_slice, cv_slice, trivial⟩)) rfl rfl rfl rfl) ?_
                refine JL_q (wants_none rfl) rfl (ex_assign rfl) ?_
                refine JL_nil ?_
                refine N_then ?_
                refine J_ret ?_
                refine N_ctx (fun w hh => SH.ow_nil (α := Int) 2 hh) ?_
                refine N_ctx (fun w hh => hh.tokf 0 rfl rfl) ?_
                refine N_ctx (fun w hh => SH.ow_nil (α := Int) 2 hh) ?_
                refine N_ctx (fun w hh => hh.tokf 0 rfl rfl) ?_
                exact N_ret2 rfl (rv_cell 19 rfl rfl ti_39 rfl) (rv_tmp rfl) (fun w hh => ⟨((.slice none 0 0 : Value), ((.slice none 0 0 : Value).ownBlock.toList ++ []), (.slice none 0 0 : Value), ((.slice none 0 0 : Value).ownBlock.toList ++ [])), rfl, hh.sel [2, 0] rfl⟩)
              · refine J_skip ?_
                refine N_then ?_
                refine J_seq ?_
                refine J_region ?_
                refine JL_q (wants_none rfl) rfl (ex_load_bx_agg 0 ti_39 rfl rfl rfl rfl) ?_
                refine JL_sk (wants_none rfl) (sk_store_bx' 7 ti_39 rfl rfl (fun w hh => (cv_aggs ⟨cv_int, (hh.cv 4 rfl), (hh.cv 1 rfl), trivial⟩)) rfl rfl rfl rfl) ?_
                refine JL_q (wants_none rfl) rfl (ex_assign rfl) ?_
                refine JL_nil ?_
                refine N_then ?_
                refine J_ret ?_
                refine N_inl2 hK108 rfl (rv_cell 7 rfl rfl ti_39 rfl) (rv_tmp rfl) ?_
                refine JL_q (wants_none rfl) rfl (ex_extract rfl rfl) ?_
                refine JL_q (wants_none rfl) rfl (ex_extract rfl rfl) ?_
                refine JL_sk (wants_none rfl) (sk_store_bx' 15 ti_39 rfl rfl (fun w hh => (cv_aggs ⟨cv_int, (hh.cv 4 rfl), (hh.cv 1 rfl), trivial⟩)) rfl rfl rfl rfl) ?_
                refine JL_q (wants_none rfl) rfl (ex_assign rfl) ?_
                refine JL_nil ?_
                refine N_then ?_
                refine J_ret ?_
                exact N_ret2 rfl (rv_cell 15 rfl rfl ti_39 rfl) (rv_tmp rfl) (fun w hh => ⟨(x114, (((.slice (some ⟨b107, 0, none⟩) 1 1) : Value).ownBlock.toList ++ []), x117, ((g94 : Value).ownBlock.toList ++ [])), rfl, hh.sel [5, 2] rfl⟩)

set_option maxHeartbeats 40000000 in
theorem c_laws_FnExactFoldConfig (A : Nat → Prop) (w : World) (hA : ∀ k, A k → k < w.heap.size) (v0_ : Value) (p0 : GMachine) (hp0 : Rd A w v0_ p0) (v1_ : Value) (p1 : GConfig) (hp1 : Rd A w v1_ p1) (r : Bool) (hr : F_laws_FnExactFoldConfig p0 p1 = some r) :
    Con Try.prog 5 [v0_, v1_] A w (fun x_ : Unit => .bool r) (fun x_ => []) := by
  obtain ⟨v0_0, rfl, hp0_0⟩ := GMachine.open hp0
  obtain ⟨v1_0, v1_1, rfl, hp1_0, hp1_1⟩ := GConfig.open hp1
  refine Con_of (v := fun (r : Bool) (x_ : Unit) => .bool r) (fs := fun r x_ => []) Try.func5 rfl Try.ntmps5 rfl ((((SH.start hA).start_rd rfl hp0_0).start_rd rfl hp1_0).start_rd rfl hp1_1) rfl ?_ hr
  unfold F_laws_FnExactFoldConfig
  refine J_seq ?_
  refine J_region ?_
  refine JL_st (wants_none rfl) rfl (st_box' rfl (fun w hh => (cv_aggs ⟨cv_int, cv_int, (hh.cv 2 rfl), trivial⟩))) (fun b1 => ?_)
  refine JL_st (wants_none rfl) rfl (st_box' rfl (fun w hh => (cv_aggs ⟨cv_int, (hh.cv 2 rfl), (hh.cv 1 rfl), trivial⟩))) (fun b2 => ?_)
  refine JL_q (wants_none rfl) rfl (ex_assign rfl) ?_
  refine JL_nil ?_
  refine N_then ?_
  refine J_seq ?_
  refine J_region ?_
  refine JL_q (wants_none rfl) rfl (ex_assign rfl) ?_
  refine JL_nil ?_
  refine N_then ?_
  refine J_seq ?_
  refine J_region ?_
  refine JL_q (wants_none rfl) rfl (ex_load_bx_agg 1 ti_24 rfl rfl rfl rfl) ?_
  refine JL_q (wants_none rfl) rfl (ex_move rfl) ?_
  refine JL_bnd fun r3 hr4 => ?_
  refine JL_call (wants_none rfl) rfl Try.call8 rfl (Ca_of0 fun w hh => c_laws_szMachine _ w (fun _ hk => hk.elim) _ _ (GMachine.rdmk (Rd.mk_int _ _ _) (Rd.mk_int _ _ _) (hh.rd0 4 rfl)) _ _ hr4) (fun _ => ?_)
  refine JL_q (wants_none rfl) rfl (ex_assign rfl) ?_
  refine JL_nil ?_
  refine N_then ?_
  refine J_seq ?_
  refine J_seq ?_
  refine J_region ?_
  refine JL_q (wants_none rfl) rfl (ex_move rfl) ?_
  refine JL_q (wants_none rfl) rfl (ex_lss rfl rfl) ?_
  refine JL_nil ?_
  refine N_then ?_
  refine J_if rfl (fun h5 => ?_) (fun h5 => ?_)
  · refine J_seq ?_
    refine J_region ?_
    refine JL_q (wants_none rfl) rfl (ex_assign rfl) ?_
    refine JL_nil ?_
    refine N_then ?_
    refine J_ret ?_
    refine N_then_ret ?_
    exact N_ret1 rfl (rv_tmp rfl) (fun w hh => ⟨(), rfl, hh.sel [] rfl⟩)
  · refine J_skip ?_
    refine N_then ?_
    refine J_seq ?_
    refine J_region ?_
    refine JL_q (wants_none rfl) rfl (ex_load_bx_agg 0 ti_37 rfl rfl rfl rfl) ?_
    refine JL_q (wants_none rfl) rfl (ex_move rfl) ?_
    refine JL_bnd fun r6 hr7 => ?_
    refine JL_call (wants_none rfl) rfl Try.call17 rfl (Ca_of0 fun w hh => c_laws_szConfig _ w (fun _ hk => hk.elim) _ _ (GConfig.rdmk (Rd.mk_int _ _ _) (hh.rd0 3 rfl) (hh.rd0 2 rfl)) _ _ hr7) (fun _ => ?_)
    refine JL_q (wants_none rfl) rfl (ex_assign rfl) ?_
    refine JL_nil ?_
    refine N_then ?_
    refine J_seq ?_
    refine J_seq ?_
    refine J_region ?_
    refine JL_q (wants_none rfl) rfl (ex_move rfl) ?_
    refine JL_q (wants_none rfl) rfl (ex_lss rfl rfl) ?_
    refine JL_nil ?_
    refine N_then ?_
    refine J_if rfl (fun h8 => ?_) (fun h8 => ?_)
    · refine J_seq ?_
      refine J_region ?_
      refine JL_q (wants_none rfl) rfl (ex_assign rfl) ?_
      refine JL_nil ?_
      refine N_then ?_
      refine J_ret ?_
      refine N_then_ret ?_
      exact N_ret1 rfl (rv_tmp rfl) (fun w hh => ⟨(), rfl, hh.sel [] rfl⟩)
    · refine J_skip ?_
      refine N_then ?_
      refine J_seq ?_
      refine J_cut' (S' := Int × (List Int) × (List Int) × Int) (G' := Value × Value × Nat) (fun s9 g10 => [(2, .pointer (some ⟨b1, 0, none⟩)), (3, .pointer (some ⟨b2, 0, none⟩)), (6, .pointer (some ⟨g10.2.2, 0, none⟩)), (7, .int .i64 s9.2.2.2)]) (fun s9 g10 => [.rd v0_0 p0.Rules, .bx b1 24 [.int .i64 p0.Symbols, .int .i64 p0.States, v0_0], .rd v1_0 p1.Left, .rd v1_1 p1.Right, .bx b2 37 [.int .i64 p1.State, v1_0, v1_1], .ow 2 g10.1 s9.2.1, .ow 2 g10.2.1 s9.2.2.1, .bx g10.2.2 39 [.int .i64 s9.1, g10.1, g10.2.1]]) ?_ (fun s9 g10 => ?_)
      · refine J_draw [] (by kernel_rfl) ?_
        refine JP_take (i := 0) [0, 1, 2, 3, 4] [] rfl (by kernel_rfl) (by kernel_rfl) (by kernel_rfl) rfl rfl (wants_none rfl) rfl (ex_load_bx_agg 1 ti_24 rfl rfl rfl rfl) ?_
        refine JP_take (i := 2) [0, 1, 2, 3, 4] [] rfl (by kernel_rfl) (by kernel_rfl) (by kernel_rfl) rfl rfl (wants_none rfl) rfl (ex_load_bx_agg 0 ti_37 rfl rfl rfl rfl) ?_
        refine JP_go [0, 1, 2, 3, 4] [] rfl rfl rfl (fun w12 h1_13 hp11 => ?_)
        refine JD_bnd fun r14 hr15 => ?_
        refine JD_two (i := 1) (j := 8) (by kernel_rfl) ?_ ?_
        · refine JO_call rfl (wants_none rfl) rfl Try.call10 rfl (Ca_self (fun _ => rfl) fun w hh => c_laws_toMachine _ w (fun _ hk => hk.elim) _ _ (GMachine.rdmk (Rd.mk_int _ _ _) (Rd.mk_int _ _ _) (hh.rd0 4 rfl)) _ hr15) (fun x16 => ?_)
          refine JD_bnd fun r17 hr18 => ?_
          refine JD_two (i := 3) (j := 8) (by kernel_rfl) ?_ ?_
          · refine JO_call rfl (wants_none rfl) rfl Try.call19 rfl (Ca_self (fun _ => rfl) fun w hh => c_laws_toConfig _ w (fun _ hk => hk.elim) _ _ (GConfig.rdmk (Rd.mk_int _ _ _) (hh.rd0 4 rfl) (hh.rd0 3 rfl)) _ hr18) (fun x19 => ?_)
            obtain ⟨x19_0, x19_1⟩ := x19
            refine JD_bnd fun r20 hr21 => ?_
            refine JD_two (i := 4) (j := 8) (by kernel_rfl) ?_ ?_
            · refine JO_call rfl (wants_none rfl) rfl Try.call18 rfl (Ca_self (fun _ => rfl) fun w hh => c_spec_FoldConfig _ w (fun _ hk => hk.elim) _ _ (GMachine.rdmk (Rd.mk_int _ _ _) (Rd.mk_int _ _ _) (hh.ow0 2 rfl)) _ _ (GConfig.rdmk (Rd.mk_int _ _ _) (hh.ow0 0 rfl) (hh.ow0 1 rfl)) _ hr21) (fun x22 => ?_)
              obtain ⟨x22_0, x22_1⟩ := x22
              refine JD_take (i := 5) hp11 rfl (by kernel_rfl) (by kernel_rfl) (by kernel_rfl) (wants_none rfl) rfl (ex_move rfl) ?_
              refine JD_take (i := 6) hp11 rfl (by kernel_rfl) (by kernel_rfl) (by kernel_rfl) (wants_none rfl) rfl (ex_extract rfl rfl) ?_
              refine JD_take (i := 7) hp11 rfl (by kernel_rfl) (by kernel_rfl) (by kernel_rfl) (wants_none rfl) rfl (ex_extract rfl rfl) ?_
              refine JD_one (i := 8) (by kernel_rfl) ?_
              refine JO_st rfl (wants_none rfl) rfl (st_alloc zi_39 rfl) (fun _ hk => nomatch hk) (fun b23 => ?_)
              refine JD_one (i := 9) (by kernel_rfl) ?_
              refine JO_sk2 0 [] [0, 1, 2, 3, 4] [6, 7, 8, 9, 10] rfl rfl rfl rfl rfl rfl (wants_none rfl) (sk_store_bx' 0 ti_39 rfl rfl (fun w hh => (cv_aggs ⟨cv_int, (hh.cv_ow 1 rfl), (hh.cv_ow 2 rfl), trivial⟩)) rfl rfl rfl rfl) (fun _ hk => hk) ?_
              refine JD_take (i := 10) hp11 rfl (by kernel_rfl) (by kernel_rfl) (by kernel_rfl) (wants_none rfl) rfl (ex_assign rfl) ?_
              refine JD_done (by kernel_rfl) ?_
              exact N_meet' (x22_0, x22_1, b23) ⟨rfl, rfl, rfl, rfl, trivial⟩ [10, 7, 9, 8, 6, 1, 2, 0] rfl rfl
            · refine JO_st rfl (wants_none rfl) rfl (st_alloc zi_39 rfl) (fun _ hk => nomatch hk) (fun b24 => ?_)
              refine JD_one (i := 4) (by kernel_rfl) ?_
              refine JO_call rfl (wants_none rfl) rfl Try.call18 rfl (Ca_self (fun _ => rfl) fun w hh => c_spec_FoldConfig _ w (fun _ hk => hk.elim) _ _ (GMachine.rdmk (Rd.mk_int _ _ _) (Rd.mk_int _ _ _) (hh.ow0 3 rfl)) _ _ (GConfig.rdmk (Rd.mk_int _ _ _) (hh.ow0 1 rfl) (hh.ow0 2 rfl)) _ hr21) (fun x25 => ?_)
              obtain ⟨x25_0, x25_1⟩ := x25
              refine JD_take (i := 5) hp11 rfl (by kernel_rfl) (by kernel_rfl) (by kernel_rfl) (wants_none rfl) rfl (ex_move rfl) ?_
              refine JD_take (i := 6) hp11 rfl (by kernel_rfl) (by kernel_rfl) (by kernel_rfl) (wants_none rfl) rfl (ex_extract rfl rfl) ?_
              refine JD_take (i := 7) hp11 rfl (by kernel_rfl) (by kernel_rfl) (by kernel_rfl) (wants_none rfl) rfl (ex_extract rfl rfl) ?_
              refine JD_one (i := 9) (by kernel_rfl) ?_
              refine JO_sk2 2 [] [0, 1, 2, 3, 4] [6, 7, 8, 9, 10] rfl rfl rfl rfl rfl rfl (wants_none rfl) (sk_store_bx' 2 ti_39 rfl rfl (fun w hh => (cv_aggs ⟨cv_int, (hh.cv_ow 0 rfl), (hh.cv_ow 1 rfl), trivial⟩)) rfl rfl rfl rfl) (fun _ hk => hk) ?_
              refine JD_take (i := 10) hp11 rfl (by kernel_rfl) (by kernel_rfl) (by kernel_rfl) (wants_none rfl) rfl (ex_assign rfl) ?_
              refine JD_done (by kernel_rfl) ?_
              exact N_meet' (x25_0, x25_1, b24) ⟨rfl, rfl, rfl, rfl, trivial⟩ [10, 7, 9, 8, 6, 0, 1, 2] rfl rfl
          · refine JO_st rfl (wants_none rfl) rfl (st_alloc zi_39 rfl) (fun _ hk => nomatch hk) (fun b26 => ?_)
            refine JD_one (i := 3) (by kernel_rfl) ?_
            refine JO_call rfl (wants_none rfl) rfl Try.call19 rfl (Ca_self (fun _ => rfl) fun w hh => c_laws_toConfig _ w (fun _ hk => hk.elim) _ _ (GConfig.rdmk (Rd.mk_int _ _ _) (hh.rd0 5 rfl) (hh.rd0 4 rfl)) _ hr18) (fun x27 => ?_)
            obtain ⟨x27_0, x27_1⟩ := x27
            refine JD_bnd fun r28 hr29 => ?_
            refine JD_one (i := 4) (by kernel_rfl) ?_
            refine JO_call rfl (wants_none rfl) rfl Try.call18 rfl (Ca_self (fun _ => rfl) fun w hh => c_spec_FoldConfig _ w (fun _ hk => hk.elim) _ _ (GMachine.rdmk (Rd.mk_int _ _ _) (Rd.mk_int _ _ _) (hh.ow0 3 rfl)) _ _ (GConfig.rdmk (Rd.mk_int _ _ _) (hh.ow0 0 rfl) (hh.ow0 1 rfl)) _ hr29) (fun x30 => ?_)
            obtain ⟨x30_0, x30_1⟩ := x30
            refine JD_take (i := 5) hp11 rfl (by kernel_rfl) (by kernel_rfl) (by kernel_rfl) (wants_none rfl) rfl (ex_move rfl) ?_
            refine JD_take (i := 6) hp11 rfl (by kernel_rfl) (by kernel_rfl) (by kernel_rfl) (wants_none rfl) rfl (ex_extract rfl rfl) ?_
            refine JD_take (i := 7) hp11 rfl (by kernel_rfl) (by kernel_rfl) (by kernel_rfl) (wants_none rfl) rfl (ex_extract rfl rfl) ?_
            refine JD_one (i := 9) (by kernel_rfl) ?_
            refine JO_sk2 4 [] [0, 1, 2, 3, 4] [6, 7, 8, 9, 10] rfl rfl rfl rfl rfl rfl (wants_none rfl) (sk_store_bx' 4 ti_39 rfl rfl (fun w hh => (cv_aggs ⟨cv_int, (hh.cv_ow 0 rfl), (hh.cv_ow 1 rfl), trivial⟩)) rfl rfl rfl rfl) (fun _ hk => hk) ?_
            refine JD_take (i := 10) hp11 rfl (by kernel_rfl) (by kernel_rfl) (by kernel_rfl) (wants_none rfl) rfl (ex_assign rfl) ?_
            refine JD_done (by kernel_rfl) ?_
            exact N_meet' (x30_0, x30_1, b26) ⟨rfl, rfl, rfl, rfl, trivial⟩ [10, 7, 9, 8, 6, 0, 1, 4] rfl rfl
        · refine JO_st rfl (wants_none rfl) rfl (st_alloc zi_39 rfl) (fun _ hk => nomatch hk) (fun b31 => ?_)
          refine JD_one (i := 1) (by kernel_rfl) ?_
          refine JO_call rfl (wants_none rfl) rfl Try.call10 rfl (Ca_self (fun _ => rfl) fun w hh => c_laws_toMachine _ w (fun _ hk => hk.elim) _ _ (GMachine.rdmk (Rd.mk_int _ _ _) (Rd.mk_int _ _ _) (hh.rd0 5 rfl)) _ hr15) (fun x32 => ?_)
          refine JD_bnd fun r33 hr34 => ?_
          refine JD_one (i := 3) (by kernel_rfl) ?_
          refine JO_call rfl (wants_none rfl) rfl Try.call19 rfl (Ca_self (fun _ => rfl) fun w hh => c_laws_toConfig _ w (fun _ hk => hk.elim) _ _ (GConfig.rdmk (Rd.mk_int _ _ _) (hh.rd0 5 rfl) (hh.rd0 4 rfl)) _ hr34) (fun x35 => ?_)
          obtain ⟨x35_0, x35_1⟩ := x35
          refine JD_bnd fun r36 hr37 => ?_
          refine JD_one (i := 4) (by kernel_rfl) ?_
          refine JO_call rfl (wants_none rfl) rfl Try.call18 rfl (Ca_self (fun _ => rfl) fun w hh => c_spec_FoldConfig _ w (fun _ hk => hk.elim) _ _ (GMachine.rdmk (Rd.mk_int _ _ _) (Rd.mk_int _ _ _) (hh.ow0 2 rfl)) _ _ (GConfig.rdmk (Rd.mk_int _ _ _) (hh.ow0 0 rfl) (hh.ow0 1 rfl)) _ hr37) (fun x38 => ?_)
          obtain ⟨x38_0, x38_1⟩ := x38
          refine JD_take (i := 5) hp11 rfl (by kernel_rfl) (by kernel_rfl) (by kernel_rfl) (wants_none rfl) rfl (ex_move rfl) ?_
          refine JD_take (i := 6) hp11 rfl (by kernel_rfl) (by kernel_rfl) (by kernel_rfl) (wants_none rfl) rfl (ex_extract rfl rfl) ?_
          refine JD_take (i := 7) hp11 rfl (by kernel_rfl) (by kernel_rfl) (by kernel_rfl) (wants_none rfl) rfl (ex_extract rfl rfl) ?_
          refine JD_one (i := 9) (by kernel_rfl) ?_
          refine JO_sk2 5 [] [0, 1, 2, 3, 4] [6, 7, 8, 9, 10] rfl rfl rfl rfl rfl rfl (wants_none rfl) (sk_store_bx' 5 ti_39 rfl rfl (fun w hh => (cv_aggs ⟨cv_int, (hh.cv_ow 0 rfl), (hh.cv_ow 1 rfl), trivial⟩)) rfl rfl rfl rfl) (fun _ hk => hk) ?_
          refine JD_take (i := 10) hp11 rfl (by kernel_rfl) (by kernel_rfl) (by kernel_rfl) (wants_none rfl) rfl (ex_assign rfl) ?_
          refine JD_done (by kernel_rfl) ?_
          exact N_meet' (x38_0, x38_1, b31) ⟨rfl, rfl, rfl, rfl, trivial⟩ [10, 7, 9, 8, 6, 0, 1, 5] rfl rfl
      · obtain ⟨g10_0, g10_1, g10_2⟩ := g10
        refine N_then ?_
        refine J_seq ?_
        refine J_region ?_
        refine JL_q (wants_none rfl) rfl (ex_load_bx_agg 1 ti_24 rfl rfl rfl rfl) ?_
        refine JL_bnd fun r39 hr40 => ?_
        refine JL_call (wants_none rfl) rfl Try.call10 rfl (Ca_self (fun _ => rfl) fun w hh => c_laws_toMachine _ w (fun _ hk => hk.elim) _ _ (GMachine.rdmk (Rd.mk_int _ _ _) (Rd.mk_int _ _ _) (hh.rd0 0 rfl)) _ hr40) (fun x41 => ?_)
        refine JL_st (wants_none rfl) rfl (st_alloc zi_28 rfl) (fun b42 => ?_)
        refine JL_sk (wants_none rfl) (sk_store_bx' 0 ti_28 rfl rfl (fun w hh => (cv_aggs ⟨cv_int, cv_int, (hh.cv_ow 1 rfl), trivial⟩)) rfl rfl rfl rfl) ?_
        refine JL_nil ?_
        refine N_then ?_
        refine J_seq ?_
        refine J_region ?_
        refine JL_q (wants_none rfl) rfl (ex_load_bx_agg 6 ti_37 rfl rfl rfl rfl) ?_
        refine JL_bnd fun r43 hr44 => ?_
        refine JL_call (wants_none rfl) rfl Try.call19 rfl (Ca_self (fun _ => rfl) fun w hh => c_laws_toConfig _ w (fun _ hk => hk.elim) _ _ (GConfig.rdmk (Rd.mk_int _ _ _) (hh.rd0 4 rfl) (hh.rd0 5 rfl)) _ hr44) (fun x45 => ?_)
        obtain ⟨x45_0, x45_1⟩ := x45
        refine JL_st (wants_none rfl) rfl (st_alloc zi_39 rfl) (fun b46 => ?_)
        refine JL_sk (wants_none rfl) (sk_store_bx' 0 ti_39 rfl rfl (fun w hh => (cv_aggs ⟨cv_int, (hh.cv_ow 1 rfl), (hh.cv_ow 2 rfl), trivial⟩)) rfl rfl rfl rfl) ?_
        refine JL_nil ?_
        refine N_then ?_
        refine J_seq ?_
        refine J_region ?_
        refine JL_q (wants_none rfl) rfl (ex_load_bx_agg 3 ti_28 rfl rfl rfl rfl) ?_
        refine JL_q (wants_none rfl) rfl (ex_load_bx_agg 0 ti_39 rfl rfl rfl rfl) ?_
        refine JL_bnd fun r47 hr48 => ?_
        refine JL_call (wants_none rfl) rfl Try.call20 rfl (Ca_self (fun _ => rfl) fun w hh => c_impl_FoldConfig _ w (fun _ hk => hk.elim) _ _ (GMachine.rdmk (Rd.mk_int _ _ _) (Rd.mk_int _ _ _) (hh.ow0 4 rfl)) _ _ (GConfig.rdmk (Rd.mk_int _ _ _) (hh.ow0 1 rfl) (hh.ow0 2 rfl)) _ hr48) (fun x49 => ?_)
        obtain ⟨x49_0, x49_1, x49_2, x49_3⟩ := x49
        refine JL_ctx (fun w hh => hh.tkn_rd 0 rfl) ?_
        refine JL_ctx (fun w hh => hh.tkn_rd 2 rfl) ?_
        refine JL_q (wants_none rfl) rfl (ex_move rfl) ?_
        refine JL_q (wants_none rfl) rfl (ex_extract rfl rfl) ?_
        refine JL_q (wants_none rfl) rfl (ex_extract rfl rfl) ?_
        refine JL_st (wants_none rfl) rfl (st_alloc zi_39 rfl) (fun b50 => ?_)
        refine JL_sk (wants_none rfl) (sk_store_bx' 0 ti_39 rfl rfl (fun w hh => (cv_aggs ⟨cv_int, (hh.cv 2 rfl), (hh.cv 1 rfl), trivial⟩)) rfl rfl rfl rfl) ?_
        refine JL_q (wants_none rfl) rfl (ex_assign rfl) ?_
        refine JL_nil ?_
        refine N_then ?_
        refine J_seq ?_
        refine J_cut' (S' := Unit) (G' := Unit) (fun _ _ => [(2, .pointer (some ⟨b1, 0, none⟩)), (3, .pointer (some ⟨b2, 0, none⟩)), (6, .pointer (some ⟨g10_2, 0, none⟩)), (7, .int .i64 s9.2.2.2), (8, .pointer (some ⟨b42, 0, none⟩)), (9, .pointer (some ⟨b46, 0, none⟩)), (10, .pointer (some ⟨b50, 0, none⟩)), (11, .int .i64 r47.2)]) (fun _ _ => [.rd v0_0 p0.Rules, .bx b1 24 [.int .i64 p0.Symbols, .int .i64 p0.States, v0_0], .rd v1_0 p1.Left, .rd v1_1 p1.Right, .bx b2 37 [.int .i64 p1.State, v1_0, v1_1], .ow 2 g10_0 s9.2.1, .ow 2 g10_1 s9.2.2.1, .bx g10_2 39 [.int .i64 s9.1, g10_0, g10_1], .ow 97 x41 r39.Rules, .bx b42 28 [.int .i64 r39.Symbols, .int .i64 r39.States, x41], .ow 2 x45_0 r43.Left, .ow 2 x45_1 r43.Right, .bx b46 39 [.int .i64 r43.State, x45_0, x45_1], .rd x49_0 r47.1.Left, .tkn x49_0 r47.1.Left x49_1, .rd x49_2 r47.1.Right, .tkn x49_2 r47.1.Right x49_3, .bx b50 39 [.int .i64 r47.1.State, x49_0, x49_2]]) ?_ (fun s51 g52 => ?_)
        · refine J_seq ?_
          refine J_region ?_
          refine JL_q (wants_none rfl) rfl (ex_load_bx_agg 0 ti_39 rfl rfl rfl rfl) ?_
          refine JL_q (wants_none rfl) rfl (ex_load_bx_agg 17 ti_39 rfl rfl rfl rfl) ?_
          refine JL_bnd fun r53 hr54 => ?_
          refine JL_call (wants_none rfl) rfl Try.call21 rfl (Ca_of0 fun w hh => c_laws_eqConfig _ w (fun _ hk => hk.elim) _ _ (GConfig.rdmk (Rd.mk_int _ _ _) (hh.rd0 2 rfl) (hh.rd0 1 rfl)) _ _ (GConfig.rdmk (Rd.mk_int _ _ _) (hh.ow0 15 rfl) (hh.ow0 16 rfl)) _ hr54) (fun _ => ?_)
          refine JL_q (wants_none rfl) rfl (ex_not rfl) ?_
          refine JL_q (wants_none rfl) rfl (ex_move rfl) ?_
          refine JL_cond (fun h55 => ?_) (fun h55 => ?_)
          · refine JL_passed rfl rfl rfl h55 ?_
            refine JL_passed rfl rfl rfl h55 ?_
            refine JL_passed rfl rfl rfl h55 ?_
            refine JL_q (wants_none rfl) rfl (ex_pick_true rfl h55 rfl) ?_
            refine JL_nil ?_
            refine N_then ?_
            refine J_if_true rfl rfl ?_
            refine J_seq ?_
            refine J_region ?_
            refine JL_q (wants_none rfl) rfl (ex_assign rfl) ?_
            refine JL_nil ?_
            refine N_then ?_
            refine J_ret ?_
            refine N_mid_ret ?_
            refine N_then_ret ?_
            exact N_ret1 rfl (rv_tmp rfl) (fun w hh => ⟨(), rfl, hh.sel [] rfl⟩)
          · refine JL_q (wants_some rfl rfl rfl h55) rfl (ex_move rfl) ?_
            refine JL_q (wants_some rfl rfl rfl h55) rfl (ex_move rfl) ?_
            refine JL_q (wants_some rfl rfl rfl h55) rfl (ex_neq rfl rfl) ?_
            refine JL_q (wants_none rfl) rfl (ex_pick_false rfl h55 rfl) ?_
            refine JL_nil ?_
            refine N_then ?_
            refine J_if rfl (fun h56 => ?_) (fun h56 => ?_)
            · refine J_seq ?_
              refine J_region ?_
              refine JL_q (wants_none rfl) rfl (ex_assign rfl) ?_
              refine JL_nil ?_
              refine N_then ?_
              refine J_ret ?_
              refine N_mid_ret ?_
              refine N_then_ret ?_
              exact N_ret1 rfl (rv_tmp rfl) (fun w hh => ⟨(), rfl, hh.sel [] rfl⟩)
            · refine J_skip ?_
              exact N_meet' () ⟨rfl, rfl, rfl, rfl, rfl, rfl, rfl, rfl, trivial⟩ [10, 11, 12, 13, 14, 15, 16, 17, 9, 8, 6, 7, 5, 2, 3, 1, 4, 0] rfl rfl
        · refine N_then ?_
          refine J_seq ?_
          refine J_seq ?_
          refine J_draw [] (by kernel_rfl) ?_
          refine JP_take (i := 0) [0, 1, 2, 3, 4, 5, 6, 7, 8, 9, 10, 11, 12, 13, 14, 15, 16, 17] [] rfl (by kernel_rfl) (by kernel_rfl) (by kernel_rfl) rfl rfl (wants_none rfl) rfl (ex_load_bx_agg 9 ti_28 rfl rfl rfl rfl) ?_
          refine JP_take (i := 1) [0, 1, 2, 3, 4, 5, 6, 7, 8, 9, 10, 11, 12, 13, 14, 15, 16, 17] [] rfl (by kernel_rfl) (by kernel_rfl) (by kernel_rfl) rfl rfl (wants_none rfl) rfl (ex_load_bx_agg 1 ti_24 rfl rfl rfl rfl) ?_
          refine JP_go [0, 1, 2, 3, 4, 5, 6, 7, 8, 9, 10, 11, 12, 13, 14, 15, 16, 17] [] rfl rfl rfl (fun w58 h1_59 hp57 => ?_)
          refine JD_bnd fun r60 hr61 => ?_
          refine JD_one (i := 2) (by kernel_rfl) ?_
          refine JO_call rfl (wants_none rfl) rfl Try.call10 rfl (Ca_self (fun _ => rfl) fun w hh => c_laws_toMachine _ w (fun _ hk => hk.elim) _ _ (GMachine.rdmk (Rd.mk_int _ _ _) (Rd.mk_int _ _ _) (hh.rd0 0 rfl)) _ hr61) (fun x62 => ?_)
          refine JD_bnd fun r63 hr64 => ?_
          refine JD_one (i := 3) (by kernel_rfl) ?_
          refine JO_call rfl (wants_none rfl) rfl Try.call12 rfl (Ca_of0 fun w hh => c_laws_eqMachine _ w (fun _ hk => hk.elim) _ _ (GMachine.rdmk (Rd.mk_int _ _ _) (Rd.mk_int _ _ _) (hh.ow0 9 rfl)) _ _ (GMachine.rdmk (Rd.mk_int _ _ _) (Rd.mk_int _ _ _) (hh.ow0 0 rfl)) _ hr64) (fun _ => ?_)
          refine JD_take (i := 4) hp57 rfl (by kernel_rfl) (by kernel_rfl) (by kernel_rfl) (wants_none rfl) rfl (ex_not rfl) ?_
          refine JD_done (by kernel_rfl) ?_
          refine N_then ?_
          refine J_if rfl (fun h65 => ?_) (fun h65 => ?_)
          · refine J_seq ?_
            refine J_region ?_
            refine JL_q (wants_none rfl) rfl (ex_assign rfl) ?_
            refine JL_nil ?_
            refine N_then ?_
            refine J_ret ?_
            refine N_then_ret ?_
            exact N_ret1 rfl (rv_tmp rfl) (fun w hh => ⟨(), rfl, hh.sel [] rfl⟩)
          · refine J_skip ?_
            refine N_then ?_
            refine J_seq ?_
            refine J_seq ?_
            refine J_draw [] (by kernel_rfl) ?_
            refine JP_take (i := 0) [0, 1, 2, 3, 4, 5, 6, 7, 8, 9, 10, 11, 12, 13, 14, 15, 16, 17, 18] [] rfl (by kernel_rfl) (by kernel_rfl) (by kernel_rfl) rfl rfl (wants_none rfl) rfl (ex_load_bx_agg 13 ti_39 rfl rfl rfl rfl) ?_
            refine JP_take (i := 1) [0, 1, 2, 3, 4, 5, 6, 7, 8, 9, 10, 11, 12, 13, 14, 15, 16, 17, 18] [] rfl (by kernel_rfl) (by kernel_rfl) (by kernel_rfl) rfl rfl (wants_none rfl) rfl (ex_load_bx_agg 5 ti_37 rfl rfl rfl rfl) ?_
            refine JP_go [0, 1, 2, 3, 4, 5, 6, 7, 8, 9, 10, 11, 12, 13, 14, 15, 16, 17, 18] [] rfl rfl rfl (fun w67 h1_68 hp66 => ?_)
            refine JD_bnd fun r69 hr70 => ?_
            refine JD_one (i := 2) (by kernel_rfl) ?_
            refine JO_call rfl (wants_none rfl) rfl Try.call19 rfl (Ca_self (fun _ => rfl) fun w hh => c_laws_toConfig _ w (fun _ hk => hk.elim) _ _ (GConfig.rdmk (Rd.mk_int _ _ _) (hh.rd0 3 rfl) (hh.rd0 4 rfl)) _ hr70) (fun x71 => ?_)
            obtain ⟨x71_0, x71_1⟩ := x71
            refine JD_bnd fun r72 hr73 => ?_
            refine JD_one (i := 3) (by kernel_rfl) ?_
            refine JO_call rfl (wants_none rfl) rfl Try.call21 rfl (Ca_of0 fun w hh => c_laws_eqConfig _ w (fun _ hk => hk.elim) _ _ (GConfig.rdmk (Rd.mk_int _ _ _) (hh.ow0 13 rfl) (hh.ow0 14 rfl)) _ _ (GConfig.rdmk (Rd.mk_int _ _ _) (hh.ow0 0 rfl) (hh.ow0 1 rfl)) _ hr73) (fun _ => ?_)
            refine JD_take (i := 4) hp66 rfl (by kernel_rfl) (by kernel_rfl) (by kernel_rfl) (wants_none rfl) rfl (ex_not rfl) ?_
            refine JD_done (by kernel_rfl) ?_
            refine N_then ?_
            refine J_if rfl (fun h74 => ?_) (fun h74 => ?_)
            · refine J_seq ?_
              refine J_region ?_
              refine JL_q (wants_none rfl) rfl (ex_assign rfl) ?_
              refine JL_nil ?_
              refine N_then ?_
              refine J_ret ?_
              refine N_then_ret ?_
              exact N_ret1 rfl (rv_tmp rfl) (fun w hh => ⟨(), rfl, hh.sel [] rfl⟩)
            · refine J_skip ?_
              refine N_then ?_
              refine J_seq ?_
              refine J_region ?_
              refine JL_q (wants_none rfl) rfl (ex_assign rfl) ?_
              refine JL_nil ?_
              refine N_then ?_
              refine J_seq ?_
              refine J_region ?_
              refine JL_q (wants_none rfl) rfl (ex_load_bx_agg 12 ti_28 rfl rfl rfl rfl) ?_
              refine JL_q (wants_none rfl) rfl (ex_move rfl) ?_
              refine JL_inline (wants_none rfl) rfl Try.call13 rfl Try.func13 rfl Try.ntmps13 rfl rfl (fun K_ hK75 => ?_)
              refine J_seq ?_
              refine J_region ?_
              refine JL_st (wants_none rfl) rfl (st_box' rfl (fun w hh => (cv_aggs ⟨cv_int, cv_int, (hh.cv_ow 11 rfl), trivial⟩))) (fun b76 => ?_)
              refine JL_q (wants_none rfl) rfl (ex_assign rfl) ?_
              refine JL_nil ?_
              refine N_then ?_
              refine J_seq ?_
              refine J_region ?_
              refine JL_q (wants_none rfl) rfl (ex_fieldAddr fi_28_2 rfl rfl) ?_
              refine JL_q (wants_none rfl) rfl (ex_load_bx 0 ti_26 rfl rfl rfl) ?_
              refine JL_q (wants_none rfl) rfl (ex_move rfl) ?_
              refine JL_bnd fun r77 hr78 => ?_
              refine JL_ctx (fun w hh => hh.tokf 12 rfl rfl) ?_
              refine JL_mark 0 [1, 2, 3, 4, 6, 9, 10, 11, 12, 14, 15, 16, 17, 19, 21, 22] mk_laws_markRuleS (wants_none rfl) rfl Try.call36 rfl rfl rfl rfl ((((SH.start hA).start_rd rfl hp0_0).start_rd rfl hp1_0).start_rd rfl hp1_1) rfl hr78 ?_
              refine JL_ctx (fun w hh => hh.tkn_rd 18 rfl) ?_
              refine JL_ctx (fun w hh => hh.tkn_rd 20 rfl) ?_
              refine JL_q (wants_none rfl) rfl (ex_assign rfl) ?_
              refine JL_nil ?_
              refine N_then ?_
              refine J_seq ?_
              refine J_region ?_
              refine JL_q (wants_none rfl) rfl (ex_move rfl) ?_
              refine JL_q (wants_none rfl) rfl (ex_assign rfl) ?_
              refine JL_nil ?_
              refine N_then ?_
              refine J_ret ?_
              refine N_inl1 hK75 rfl (rv_tmp rfl) ?_
              refine JL_q (wants_none rfl) rfl (ex_assign rfl) ?_
              refine JL_nil ?_
              refine N_then ?_
              refine J_seq ?_
              refine J_region ?_
              refine JL_q (wants_none rfl) rfl (ex_load_bx_agg 19 ti_39 rfl rfl rfl rfl) ?_
              refine JL_q (wants_none rfl) rfl (ex_move rfl) ?_
              refine JL_inline (wants_none rfl) rfl Try.call22 rfl Try.func22 rfl Try.ntmps22 rfl rfl (fun K_ hK79 => ?_)
              refine J_seq ?_
              refine J_region ?_
              refine JL_st (wants_none rfl) rfl (st_box' rfl (fun w hh => (cv_aggs ⟨cv_int, (hh.cv_ow 17 rfl), (hh.cv_ow 18 rfl), trivial⟩))) (fun b80 => ?_)
              refine JL_q (wants_none rfl) rfl (ex_assign rfl) ?_
              refine JL_nil ?_
              refine N_then ?_
              refine J_seq ?_
              refine J_region ?_
              refine JL_q (wants_none rfl) rfl (ex_fieldAddr fi_39_1 rfl rfl) ?_
              refine JL_q (wants_none rfl) rfl (ex_load_bx 0 ti_35 rfl rfl rfl) ?_
              refine JL_q (wants_none rfl) rfl (ex_move rfl) ?_
              refine JL_bnd fun r81 hr82 => ?_
              refine JL_ctx (fun w hh => hh.tokf 18 rfl rfl) ?_
              refine JL_mark 0 [1, 5, 9, 10, 11, 12, 13, 14, 15, 16, 17, 18, 20, 21, 22, 23, 24] mk_laws_markInt64S (wants_none rfl) rfl Try.call51 rfl rfl rfl rfl ((((SH.start hA).start_rd rfl hp0_0).start_rd rfl hp1_0).start_rd rfl hp1_1) rfl hr82 ?_
              refine JL_ctx (fun w hh => hh.tkn_rd 20 rfl) ?_
              refine JL_ctx (fun w hh => hh.tkn_rd 20 rfl) ?_
              refine JL_ctx (fun w hh => hh.tkn_rd 8 rfl) ?_
              refine JL_q (wants_none rfl) rfl (ex_assign rfl) ?_
              refine JL_nil ?_
              refine N_then ?_
              refine J_seq ?_
              refine J_region ?_
              refine JL_q (wants_none rfl) rfl (ex_fieldAddr fi_39_2 rfl rfl) ?_
              refine JL_q (wants_none rfl) rfl (ex_load_bx 8 ti_35 rfl rfl rfl) ?_
              refine JL_q (wants_none rfl) rfl (ex_move rfl) ?_
              refine JL_bnd fun r83 hr84 => ?_
              refine JL_ctx (fun w hh => hh.tokf 20 rfl rfl) ?_
              refine JL_mark 0 [5, 9, 10, 11, 12, 13, 14, 15, 16, 17, 18, 19, 20, 22, 23, 24, 25] mk_laws_markInt64S (wants_none rfl) rfl Try.call51 rfl rfl rfl rfl ((((SH.start hA).start_rd rfl hp0_0).start_rd rfl hp1_0).start_rd rfl hp1_1) rfl hr84 ?_
              refine JL_ctx (fun w hh => hh.tkn_rd 7 rfl) ?_
              refine JL_ctx (fun w hh => hh.tkn_rd 20 rfl) ?_
              refine JL_ctx (fun w hh => hh.tkn_rd 22 rfl) ?_
              refine JL_ctx (fun w hh => hh.tkn_rd 8 rfl) ?_
              refine JL_q (wants_none rfl) rfl (ex_assign rfl) ?_
              refine JL_nil ?_
              refine N_then ?_
              refine J_seq ?_
              refine J_region ?_
              refine JL_q (wants_none rfl) rfl (ex_move rfl) ?_
              refine JL_q (wants_none rfl) rfl (ex_assign rfl) ?_
              refine JL_nil ?_
              refine N_then ?_
              refine J_ret ?_
              refine N_inl1 hK79 rfl (rv_tmp rfl) ?_
              refine JL_q (wants_none rfl) rfl (ex_assign rfl) ?_
              refine JL_nil ?_
              refine N_then ?_
              refine J_seq ?_
              refine J_cut' (S' := Unit) (G' := Unit) (fun _ _ => [(2, .pointer (some ⟨b1, 0, none⟩)), (3, .pointer (some ⟨b2, 0, none⟩)), (6, .pointer (some ⟨g10_2, 0, none⟩)), (7, .int .i64 s9.2.2.2), (10, .pointer (some ⟨b50, 0, none⟩))]) (fun _ _ => [.rd v0_0 p0.Rules, .bx b1 24 [.int .i64 p0.Symbols, .int .i64 p0.States, v0_0], .rd v1_0 p1.Left, .rd v1_1 p1.Right, .bx b2 37 [.int .i64 p1.State, v1_0, v1_1], .ow 2 g10_0 s9.2.1, .ow 2 g10_1 s9.2.2.1, .bx g10_2 39 [.int .i64 s9.1, g10_0, g10_1], .rd x49_0 r47.1.Left, .tkn x49_0 r47.1.Left x49_1, .rd x49_2 r47.1.Right, .tkn x49_2 r47.1.Right x49_3, .bx b50 39 [.int .i64 r47.1.State, x49_0, x49_2]]) ?_ (fun s85 g86 => ?_)
              · refine J_seq ?_
                refine J_region ?_
                refine JL_q (wants_none rfl) rfl (ex_move rfl) ?_
                refine JL_q (wants_none rfl) rfl (ex_lss rfl rfl) ?_
                refine JL_q (wants_none rfl) rfl (ex_move rfl) ?_
                refine JL_cond (fun h87 => ?_) (fun h87 => ?_)
                · refine JL_passed rfl rfl rfl h87 ?_
                  refine JL_passed rfl rfl rfl h87 ?_
                  refine JL_passed rfl rfl rfl h87 ?_
                  refine JL_passed rfl rfl rfl h87 ?_
                  refine JL_q (wants_none rfl) rfl (ex_pick_true rfl h87 rfl) ?_
                  refine JL_q (wants_none rfl) rfl (ex_move rfl) ?_
                  refine JL_passed rfl rfl rfl rfl ?_
                  refine JL_passed rfl rfl rfl rfl ?_
                  refine JL_passed rfl rfl rfl rfl ?_
                  refine JL_q (wants_none rfl) rfl (ex_pick_true rfl rfl rfl) ?_
                  refine JL_nil ?_
                  refine N_then ?_
                  refine J_if_true rfl rfl ?_
                  refine J_seq ?_
                  refine J_region ?_
                  refine JL_q (wants_none rfl) rfl (ex_assign rfl) ?_
                  refine JL_nil ?_
                  refine N_then ?_
                  refine J_ret ?_
                  refine N_mid_ret ?_
                  refine N_then_ret ?_
                  exact N_ret1 rfl (rv_tmp rfl) (fun w hh => ⟨(), rfl, hh.sel [] rfl⟩)
                · refine JL_q (wants_some rfl rfl rfl h87) rfl (ex_load_bx_agg 25 ti_39 rfl rfl rfl rfl) ?_
                  refine JL_q (wants_some rfl rfl rfl h87) rfl (ex_load_bx_agg 20 ti_39 rfl rfl rfl rfl) ?_
                  refine JL_bnd fun r88 hr89 => ?_
                  refine JL_call (wants_some rfl rfl rfl h87) rfl Try.call21 rfl (Ca_of0 fun w hh => c_laws_eqConfig _ w (fun _ hk => hk.elim) _ _ (GConfig.rdmk (Rd.mk_int _ _ _) (hh.rd0 2 rfl) (hh.rd0 1 rfl)) _ _ (GConfig.rdmk (Rd.mk_int _ _ _) (hh.ow0 18 rfl) (hh.ow0 19 rfl)) _ hr89) (fun _ => ?_)
                  refine JL_q (wants_some rfl rfl rfl h87) rfl (ex_not rfl) ?_
                  refine JL_q (wants_none rfl) rfl (ex_pick_false rfl h87 rfl) ?_
                  refine JL_q (wants_none rfl) rfl (ex_move rfl) ?_
                  refine JL_cond (fun h90 => ?_) (fun h90 => ?_)
                  · refine JL_passed rfl rfl rfl h90 ?_
                    refine JL_passed rfl rfl rfl h90 ?_
                    refine JL_passed rfl rfl rfl h90 ?_
                    refine JL_q (wants_none rfl) rfl (ex_pick_true rfl h90 rfl) ?_
                    refine JL_nil ?_
                    refine N_then ?_
                    refine J_if_true rfl rfl ?_
                    refine J_seq ?_
                    refine J_region ?_
                    refine JL_q (wants_none rfl) rfl (ex_assign rfl) ?_
                    refine JL_nil ?_
                    refine N_then ?_
                    refine J_ret ?_
                    refine N_mid_ret ?_
                    refine N_then_ret ?_
                    exact N_ret1 rfl (rv_tmp rfl) (fun w hh => ⟨(), rfl, hh.sel [] rfl⟩)
                  · refine JL_q (wants_some rfl rfl rfl h90) rfl (ex_move rfl) ?_
                    refine JL_q (wants_some rfl rfl rfl h90) rfl (ex_move rfl) ?_
                    refine JL_q (wants_some rfl rfl rfl h90) rfl (ex_neq rfl rfl) ?_
                    refine JL_q (wants_none rfl) rfl (ex_pick_false rfl h90 rfl) ?_
                    refine JL_nil ?_
                    refine N_then ?_
                    refine J_if rfl (fun h91 => ?_) (fun h91 => ?_)
                    · refine J_seq ?_
                      refine J_region ?_
                      refine JL_q (wants_none rfl) rfl (ex_assign rfl) ?_
                      refine JL_nil ?_
                      refine N_then ?_
                      refine J_ret ?_
                      refine N_mid_ret ?_
                      refine N_then_ret ?_
                      exact N_ret1 rfl (rv_tmp rfl) (fun w hh => ⟨(), rfl, hh.sel [] rfl⟩)
                    · refine J_skip ?_
                      exact N_meet' () ⟨rfl, rfl, rfl, rfl, rfl, trivial⟩ [8, 16, 7, 6, 17, 18, 19, 20, 2, 23, 1, 24, 25] rfl rfl
              · refine N_then ?_
                refine J_seq ?_
                refine J_region ?_
                refine JL_q (wants_none rfl) rfl (ex_assign rfl) ?_
                refine JL_nil ?_
                refine N_then ?_
                refine J_seq ?_
                refine J_region ?_
                refine JL_q (wants_none rfl) rfl (ex_load_bx_agg 12 ti_39 rfl rfl rfl rfl) ?_
                refine JL_q (wants_none rfl) rfl (ex_move rfl) ?_
                refine JL_inline (wants_none rfl) rfl Try.call22 rfl Try.func22 rfl Try.ntmps22 rfl rfl (fun K_ hK92 => ?_)
                refine J_seq ?_
                refine J_region ?_
                refine JL_st (wants_none rfl) rfl (st_box' rfl (fun w hh => (cv_aggs ⟨cv_int, (hh.cv 8 rfl), (hh.cv 10 rfl), trivial⟩))) (fun b93 => ?_)
                refine JL_q (wants_none rfl) rfl (ex_assign rfl) ?_
                refine JL_nil ?_
                refine N_then ?_
                refine J_seq ?_
                refine J_region ?_
                refine JL_q (wants_none rfl) rfl (ex_fieldAddr fi_39_1 rfl rfl) ?_
                refine JL_q (wants_none rfl) rfl (ex_load_bx 0 ti_35 rfl rfl rfl) ?_
                refine JL_q (wants_none rfl) rfl (ex_move rfl) ?_
                refine JL_bnd fun r94 hr95 => ?_
                refine JL_mark 10 [0, 2, 5, 6, 7, 8, 12, 13] mk_laws_markInt64S (wants_none rfl) rfl Try.call51 rfl rfl rfl rfl ((((SH.start hA).start_rd rfl hp0_0).start_rd rfl hp1_0).start_rd rfl hp1_1) rfl hr95 ?_
                refine JL_ctx (fun w hh => hh.tkn_rd 11 rfl) ?_
                refine JL_q (wants_none rfl) rfl (ex_assign rfl) ?_
                refine JL_nil ?_
                refine N_then ?_
                refine J_seq ?_
                refine J_region ?_
                refine JL_q (wants_none rfl) rfl (ex_fieldAddr fi_39_2 rfl rfl) ?_
                refine JL_q (wants_none rfl) rfl (ex_load_bx 6 ti_35 rfl rfl rfl) ?_
                refine JL_q (wants_none rfl) rfl (ex_move rfl) ?_
                refine JL_bnd fun r96 hr97 => ?_
                refine JL_mark 12 [2, 6, 7, 8, 9, 10, 11, 13] mk_laws_markInt64S (wants_none rfl) rfl Try.call51 rfl rfl rfl rfl ((((SH.start hA).start_rd rfl hp0_0).start_rd rfl hp1_0).start_rd rfl hp1_1) rfl hr97 ?_
                refine JL_ctx (fun w hh => hh.tkn_rd 5 rfl) ?_
                refine JL_q (wants_none rfl) rfl (ex_assign rfl) ?_
                refine JL_nil ?_
                refine N_then ?_
                refine J_seq ?_
                refine J_region ?_
                refine JL_q (wants_none rfl) rfl (ex_move rfl) ?_
                refine JL_q (wants_none rfl) rfl (ex_assign rfl) ?_
                refine JL_nil ?_
                refine N_then ?_
                refine J_ret ?_
                refine N_inl1 hK92 rfl (rv_tmp rfl) ?_
                refine JL_q (wants_none rfl) rfl (ex_assign rfl) ?_
                refine JL_nil ?_
                refine N_then ?_
                refine J_seq ?_
                refine J_region ?_
                refine JL_q (wants_none rfl) rfl (ex_assign rfl) ?_
                refine JL_nil ?_
                refine N_then ?_
                refine J_seq ?_
                refine J_region ?_
                refine JL_q (wants_none rfl) rfl (ex_load_bx_agg 13 ti_39 rfl rfl rfl rfl) ?_
                refine JL_q (wants_none rfl) rfl (ex_move rfl) ?_
                refine JL_bnd fun r98 hr99 => ?_
                refine JL_call (wants_none rfl) rfl Try.call23 rfl (Ca_of0 fun w hh => c_laws_heldConfig _ w (fun _ hk => hk.elim) _ _ (GConfig.rdmk (Rd.mk_int _ _ _) (hh.rd0 0 rfl) (hh.rd0 1 rfl)) _ _ hr99) (fun _ => ?_)
                refine JL_q (wants_none rfl) rfl (ex_assign rfl) ?_
                refine JL_nil ?_
                refine N_then ?_
                refine J_seq ?_
                refine J_seq ?_
                refine J_region ?_
                refine JL_q (wants_none rfl) rfl (ex_move rfl) ?_
                refine JL_q (wants_none rfl) rfl (ex_lss rfl rfl) ?_
                refine JL_nil ?_
                refine N_then ?_
                refine J_if rfl (fun h100 => ?_) (fun h100 => ?_)
                · refine J_seq ?_
                  refine J_region ?_
                  refine JL_q (wants_none rfl) rfl (ex_assign rfl) ?_
                  refine JL_nil ?_
                  refine N_then ?_
                  refine J_ret ?_
                  refine N_then_ret ?_
                  exact N_ret1 rfl (rv_tmp rfl) (fun w hh => ⟨(), rfl, hh.sel [] rfl⟩)
                · refine J_skip ?_
                  refine N_then ?_
                  refine J_seq ?_
                  refine J_seq ?_
                  refine J_region ?_
                  refine JL_q (wants_none rfl) rfl (ex_move rfl) ?_
                  refine JL_q (wants_none rfl) rfl (ex_move rfl) ?_
                  refine JL_q (wants_none rfl) rfl (ex_neq rfl rfl) ?_
                  refine JL_nil ?_
                  refine N_then ?_
                  refine J_if rfl (fun h101 => ?_) (fun h101 => ?_)
                  · refine J_seq ?_
                    refine J_region ?_
                    refine JL_q (wants_none rfl) rfl (ex_assign rfl) ?_
                    refine JL_nil ?_
                    refine N_then ?_
                    refine J_ret ?_
                    refine N_then_ret ?_
                    exact N_ret1 rfl (rv_tmp rfl) (fun w hh => ⟨(), rfl, hh.sel [] rfl⟩)
                  · refine J_skip ?_
                    refine N_then ?_
                    refine J_seq ?_
                    refine J_cut' (S' := Int × (List Int) × (List Int) × Int) (G' := Value × List Nat × Value × List Nat × Nat) (fun s102 g103 => [(6, .pointer (some ⟨g10_2, 0, none⟩)), (7, .int .i64 s9.2.2.2), (10, .pointer (some ⟨b50, 0, none⟩)), (13, .int .i64 r96.1), (15, .pointer (some ⟨g103.2.2.2.2, 0, none⟩)), (16, .int .i64 s102.2.2.2)]) (fun s102 g103 => [.ow 2 g10_0 s9.2.1, .ow 2 g10_1 s9.2.2.1, .bx g10_2 39 [.int .i64 s9.1, g10_0, g10_1], .rd x49_0 r94.2, .tkn x49_0 r94.2 x49_1, .rd x49_2 r96.2, .tkn x49_2 r96.2 x49_3, .bx b50 39 [.int .i64 r47.1.State, x49_0, x49_2], .rd g103.1 s102.2.1, .tkn g103.1 s102.2.1 g103.2.1, .rd g103.2.2.1 s102.2.2.1, .tkn g103.2.2.1 s102.2.2.1 g103.2.2.2.1, .bx g103.2.2.2.2 39 [.int .i64 s102.1, g103.1, g103.2.2.1]]) ?_ (fun s102 g103 => ?_)
                    · refine J_draw [] (by kernel_rfl) ?_
                      refine JP_take (i := 0) [0, 1, 2, 3, 4, 5, 6, 7, 8, 9, 10, 11, 12, 13] [] rfl (by kernel_rfl) (by kernel_rfl) (by kernel_rfl) rfl rfl (wants_none rfl) rfl (ex_load_bx_agg 8 ti_24 rfl rfl rfl rfl) ?_
                      refine JP_take (i := 2) [0, 1, 2, 3, 4, 5, 6, 7, 8, 9, 10, 11, 12, 13] [] rfl (by kernel_rfl) (by kernel_rfl) (by kernel_rfl) rfl rfl (wants_none rfl) rfl (ex_load_bx_agg 9 ti_37 rfl rfl rfl rfl) ?_
                      refine JP_go [0, 1, 2, 3, 4, 5, 6, 7, 8, 9, 10, 11, 12, 13] [] rfl rfl rfl (fun w105 h1_106 hp104 => ?_)
                      refine JD_bnd fun r107 hr108 => ?_
                      refine JD_two (i := 1) (j := 8) (by kernel_rfl) ?_ ?_
                      · refine JO_call rfl (wants_none rfl) rfl Try.call10 rfl (Ca_self (fun _ => rfl) fun w hh => c_laws_toMachine _ w (fun _ hk => hk.elim) _ _ (GMachine.rdmk (Rd.mk_int _ _ _) (Rd.mk_int _ _ _) (hh.rd0 5 rfl)) _ hr108) (fun x109 => ?_)
                        refine JD_bnd fun r110 hr111 => ?_
                        refine JD_two (i := 3) (j := 8) (by kernel_rfl) ?_ ?_
                        · refine JO_call rfl (wants_none rfl) rfl Try.call19 rfl (Ca_self (fun _ => rfl) fun w hh => c_laws_toConfig _ w (fun _ hk => hk.elim) _ _ (GConfig.rdmk (Rd.mk_int _ _ _) (hh.rd0 5 rfl) (hh.rd0 4 rfl)) _ hr111) (fun x112 => ?_)
                          obtain ⟨x112_0, x112_1⟩ := x112
                          refine JD_bnd fun r113 hr114 => ?_
                          refine JD_two (i := 4) (j := 8) (by kernel_rfl) ?_ ?_
                          · refine JO_call rfl (wants_none rfl) rfl Try.call20 rfl (Ca_self (fun _ => rfl) fun w hh => c_impl_FoldConfig _ w (fun _ hk => hk.elim) _ _ (GMachine.rdmk (Rd.mk_int _ _ _) (Rd.mk_int _ _ _) (hh.ow0 2 rfl)) _ _ (GConfig.rdmk (Rd.mk_int _ _ _) (hh.ow0 0 rfl) (hh.ow0 1 rfl)) _ hr114) (fun x115 => ?_)
                            obtain ⟨x115_0, x115_1, x115_2, x115_3⟩ := x115
                            refine JD_ctx (fun w hh => hh.tkn_rd 0 rfl) (fun _ hb => hb) ?_
                            refine JD_ctx (fun w hh => hh.tkn_rd 2 rfl) (fun _ hb => hb) ?_
                            refine JD_take (i := 5) hp104 rfl (by kernel_rfl) (by kernel_rfl) (by kernel_rfl) (wants_none rfl) rfl (ex_move rfl) ?_
                            refine JD_take (i := 6) hp104 rfl (by kernel_rfl) (by kernel_rfl) (by kernel_rfl) (wants_none rfl) rfl (ex_extract rfl rfl) ?_
                            refine JD_take (i := 7) hp104 rfl (by kernel_rfl) (by kernel_rfl) (by kernel_rfl) (wants_none rfl) rfl (ex_extract rfl rfl) ?_
                            refine JD_one (i := 8) (by kernel_rfl) ?_
                            refine JO_st rfl (wants_none rfl) rfl (st_alloc zi_39 rfl) (fun _ hk => nomatch hk) (fun b116 => ?_)
                            refine JD_one (i := 9) (by kernel_rfl) ?_
                            refine JO_sk2 0 [] [0, 1, 2, 3, 4, 5, 6, 7, 8, 9, 10, 11, 12, 13] [8, 9, 10, 11, 12, 13, 14, 15, 16, 17, 18, 19, 20, 21] rfl rfl rfl rfl rfl rfl (wants_none rfl) (sk_store_bx' 0 ti_39 rfl rfl (fun w hh => (cv_aggs ⟨cv_int, (hh.cv 2 rfl), (hh.cv 1 rfl), trivial⟩)) rfl rfl rfl rfl) (fun _ hk => hk) ?_
                            refine JD_take (i := 10) hp104 rfl (by kernel_rfl) (by kernel_rfl) (by kernel_rfl) (wants_none rfl) rfl (ex_assign rfl) ?_
                            refine JD_done (by kernel_rfl) ?_
                            exact N_meet' (x115_0, x115_1, x115_2, x115_3, b116) ⟨rfl, rfl, rfl, rfl, rfl, rfl, trivial⟩ [18, 19, 20, 8, 14, 9, 10, 21, 2, 3, 1, 4, 0] rfl rfl
                          · refine JO_st rfl (wants_none rfl) rfl (st_alloc zi_39 rfl) (fun _ hk => nomatch hk) (fun b117 => ?_)
                            refine JD_one (i := 4) (by kernel_rfl) ?_
                            refine JO_call rfl (wants_none rfl) rfl Try.call20 rfl (Ca_self (fun _ => rfl) fun w hh => c_impl_FoldConfig _ w (fun _ hk => hk.elim) _ _ (GMachine.rdmk (Rd.mk_int _ _ _) (Rd.mk_int _ _ _) (hh.ow0 3 rfl)) _ _ (GConfig.rdmk (Rd.mk_int _ _ _) (hh.ow0 1 rfl) (hh.ow0 2 rfl)) _ hr114) (fun x118 => ?_)
                            obtain ⟨x118_0, x118_1, x118_2, x118_3⟩ := x118
                            refine JD_ctx (fun w hh => hh.tkn_rd 0 rfl) (fun _ hb => hb) ?_
                            refine JD_ctx (fun w hh => hh.tkn_rd 2 rfl) (fun _ hb => hb) ?_
                            refine JD_take (i := 5) hp104 rfl (by kernel_rfl) (by kernel_rfl) (by kernel_rfl) (wants_none rfl) rfl (ex_move rfl) ?_
                            refine JD_take (i := 6) hp104 rfl (by kernel_rfl) (by kernel_rfl) (by kernel_rfl) (wants_none rfl) rfl (ex_extract rfl rfl) ?_
                            refine JD_take (i := 7) hp104 rfl (by kernel_rfl) (by kernel_rfl) (by kernel_rfl) (wants_none rfl) rfl (ex_extract rfl rfl) ?_
                            refine JD_one (i := 9) (by kernel_rfl) ?_
                            refine JO_sk2 4 [] [0, 1, 2, 3, 4, 5, 6, 7, 8, 9, 10, 11, 12, 13] [8, 9, 10, 11, 12, 13, 14, 15, 16, 17, 18, 19, 20, 21] rfl rfl rfl rfl rfl rfl (wants_none rfl) (sk_store_bx' 4 ti_39 rfl rfl (fun w hh => (cv_aggs ⟨cv_int, (hh.cv 1 rfl), (hh.cv 0 rfl), trivial⟩)) rfl rfl rfl rfl) (fun _ hk => hk) ?_
                            refine JD_take (i := 10) hp104 rfl (by kernel_rfl) (by kernel_rfl) (by kernel_rfl) (wants_none rfl) rfl (ex_assign rfl) ?_
                            refine JD_done (by kernel_rfl) ?_
                            exact N_meet' (x118_0, x118_1, x118_2, x118_3, b117) ⟨rfl, rfl, rfl, rfl, rfl, rfl, trivial⟩ [18, 19, 20, 8, 14, 9, 10, 21, 1, 2, 0, 3, 4] rfl rfl
                        · refine JO_st rfl (wants_none rfl) rfl (st_alloc zi_39 rfl) (fun _ hk => nomatch hk) (fun b119 => ?_)
                          refine JD_one (i := 3) (by kernel_rfl) ?_
                          refine JO_call rfl (wants_none rfl) rfl Try.call19 rfl (Ca_self (fun _ => rfl) fun w hh => c_laws_toConfig _ w (fun _ hk => hk.elim) _ _ (GConfig.rdmk (Rd.mk_int _ _ _) (hh.rd0 6 rfl) (hh.rd0 5 rfl)) _ hr111) (fun x120 => ?_)
                          obtain ⟨x120_0, x120_1⟩ := x120
                          refine JD_bnd fun r121 hr122 => ?_
                          refine JD_one (i := 4) (by kernel_rfl) ?_
                          refine JO_call rfl (wants_none rfl) rfl Try.call20 rfl (Ca_self (fun _ => rfl) fun w hh => c_impl_FoldConfig _ w (fun _ hk => hk.elim) _ _ (GMachine.rdmk (Rd.mk_int _ _ _) (Rd.mk_int _ _ _) (hh.ow0 3 rfl)) _ _ (GConfig.rdmk (Rd.mk_int _ _ _) (hh.ow0 0 rfl) (hh.ow0 1 rfl)) _ hr122) (fun x123 => ?_)
                          obtain ⟨x123_0, x123_1, x123_2, x123_3⟩ := x123
                          refine JD_ctx (fun w hh => hh.tkn_rd 0 rfl) (fun _ hb => hb) ?_
                          refine JD_ctx (fun w hh => hh.tkn_rd 2 rfl) (fun _ hb => hb) ?_
                          refine JD_take (i := 5) hp104 rfl (by kernel_rfl) (by kernel_rfl) (by kernel_rfl) (wants_none rfl) rfl (ex_move rfl) ?_
                          refine JD_take (i := 6) hp104 rfl (by kernel_rfl) (by kernel_rfl) (by kernel_rfl) (wants_none rfl) rfl (ex_extract rfl rfl) ?_
                          refine JD_take (i := 7) hp104 rfl (by kernel_rfl) (by kernel_rfl) (by kernel_rfl) (wants_none rfl) rfl (ex_extract rfl rfl) ?_
                          refine JD_one (i := 9) (by kernel_rfl) ?_
                          refine JO_sk2 6 [] [0, 1, 2, 3, 4, 5, 6, 7, 8, 9, 10, 11, 12, 13] [8, 9, 10, 11, 12, 13, 14, 15, 16, 17, 18, 19, 20, 21] rfl rfl rfl rfl rfl rfl (wants_none rfl) (sk_store_bx' 6 ti_39 rfl rfl (fun w hh => (cv_aggs ⟨cv_int, (hh.cv 1 rfl), (hh.cv 0 rfl), trivial⟩)) rfl rfl rfl rfl) (fun _ hk => hk) ?_
                          refine JD_take (i := 10) hp104 rfl (by kernel_rfl) (by kernel_rfl) (by kernel_rfl) (wants_none rfl) rfl (ex_assign rfl) ?_
                          refine JD_done (by kernel_rfl) ?_
                          exact N_meet' (x123_0, x123_1, x123_2, x123_3, b119) ⟨rfl, rfl, rfl, rfl, rfl, rfl, trivial⟩ [18, 19, 20, 8, 14, 9, 10, 21, 1, 2, 0, 3, 6] rfl rfl
                      · refine JO_st rfl (wants_none rfl) rfl (st_alloc zi_39 rfl) (fun _ hk => nomatch hk) (fun b124 => ?_)
                        refine JD_one (i := 1) (by kernel_rfl) ?_
                        refine JO_call rfl (wants_none rfl) rfl Try.call10 rfl (Ca_self (fun _ => rfl) fun w hh => c_laws_toMachine _ w (fun _ hk => hk.elim) _ _ (GMachine.rdmk (Rd.mk_int _ _ _) (Rd.mk_int _ _ _) (hh.rd0 6 rfl)) _ hr108) (fun x125 => ?_)
                        refine JD_bnd fun r126 hr127 => ?_
                        refine JD_one (i := 3) (by kernel_rfl) ?_
                        refine JO_call rfl (wants_none rfl) rfl Try.call19 rfl (Ca_self (fun _ => rfl) fun w hh => c_laws_toConfig _ w (fun _ hk => hk.elim) _ _ (GConfig.rdmk (Rd.mk_int _ _ _) (hh.rd0 6 rfl) (hh.rd0 5 rfl)) _ hr127) (fun x128 => ?_)
                        obtain ⟨x128_0, x128_1⟩ := x128
                        refine JD_bnd fun r129 hr130 => ?_
                        refine JD_one (i := 4) (by kernel_rfl) ?_
                        refine JO_call rfl (wants_none rfl) rfl Try.call20 rfl (Ca_self (fun _ => rfl) fun w hh => c_impl_FoldConfig _ w (fun _ hk => hk.elim) _ _ (GMachine.rdmk (Rd.mk_int _ _ _) (Rd.mk_int _ _ _) (hh.ow0 2 rfl)) _ _ (GConfig.rdmk (Rd.mk_int _ _ _) (hh.ow0 0 rfl) (hh.ow0 1 rfl)) _ hr130) (fun x131 => ?_)
                        obtain ⟨x131_0, x131_1, x131_2, x131_3⟩ := x131
                        refine JD_ctx (fun w hh => hh.tkn_rd 0 rfl) (fun _ hb => hb) ?_
                        refine JD_ctx (fun w hh => hh.tkn_rd 2 rfl) (fun _ hb => hb) ?_
                        refine JD_take (i := 5) hp104 rfl (by kernel_rfl) (by kernel_rfl) (by kernel_rfl) (wants_none rfl) rfl (ex_move rfl) ?_
                        refine JD_take (i := 6) hp104 rfl (by kernel_rfl) (by kernel_rfl) (by kernel_rfl) (wants_none rfl) rfl (ex_extract rfl rfl) ?_
                        refine JD_take (i := 7) hp104 rfl (by kernel_rfl) (by kernel_rfl) (by kernel_rfl) (wants_none rfl) rfl (ex_extract rfl rfl) ?_
                        refine JD_one (i := 9) (by kernel_rfl) ?_
                        refine JO_sk2 7 [] [0, 1, 2, 3, 4, 5, 6, 7, 8, 9, 10, 11, 12, 13] [8, 9, 10, 11, 12, 13, 14, 15, 16, 17, 18, 19, 20, 21] rfl rfl rfl rfl rfl rfl (wants_none rfl) (sk_store_bx' 7 ti_39 rfl rfl (fun w hh => (cv_aggs ⟨cv_int, (hh.cv 1 rfl), (hh.cv 0 rfl), trivial⟩)) rfl rfl rfl rfl) (fun _ hk => hk) ?_
                        refine JD_take (i := 10) hp104 rfl (by kernel_rfl) (by kernel_rfl) (by kernel_rfl) (wants_none rfl) rfl (ex_assign rfl) ?_
                        refine JD_done (by kernel_rfl) ?_
                        exact N_meet' (x131_0, x131_1, x131_2, x131_3, b124) ⟨rfl, rfl, rfl, rfl, rfl, rfl, trivial⟩ [18, 19, 20, 8, 14, 9, 10, 21, 1, 2, 0, 3, 7] rfl rfl
                    · obtain ⟨g103_0, g103_1, g103_2, g103_3, g103_4⟩ := g103
                      refine N_then ?_
                      refine J_seq ?_
                      refine J_seq ?_
                      refine J_region ?_
                      refine JL_q (wants_none rfl) rfl (ex_load_bx_agg 12 ti_39 rfl rfl rfl rfl) ?_
                      refine JL_q (wants_none rfl) rfl (ex_load_bx_agg 2 ti_39 rfl rfl rfl rfl) ?_
                      refine JL_bnd fun r132 hr133 => ?_
                      refine JL_call (wants_none rfl) rfl Try.call21 rfl (Ca_of0 fun w hh => c_laws_eqConfig _ w (fun _ hk => hk.elim) _ _ (GConfig.rdmk (Rd.mk_int _ _ _) (hh.rd0 8 rfl) (hh.rd0 10 rfl)) _ _ (GConfig.rdmk (Rd.mk_int _ _ _) (hh.ow0 0 rfl) (hh.ow0 1 rfl)) _ hr133) (fun _ => ?_)
                      refine JL_q (wants_none rfl) rfl (ex_not rfl) ?_
                      refine JL_q (wants_none rfl) rfl (ex_move rfl) ?_
                      refine JL_cond (fun h134 => ?_) (fun h134 => ?_)
                      · refine JL_passed rfl rfl rfl h134 ?_
                        refine JL_passed rfl rfl rfl h134 ?_
                        refine JL_passed rfl rfl rfl h134 ?_
                        refine JL_q (wants_none rfl) rfl (ex_pick_true rfl h134 rfl) ?_
                        refine JL_nil ?_
                        refine N_then ?_
                        refine J_if_true rfl rfl ?_
                        refine J_seq ?_
                        refine J_region ?_
                        refine JL_q (wants_none rfl) rfl (ex_assign rfl) ?_
                        refine JL_nil ?_
                        refine N_then ?_
                        refine J_ret ?_
                        refine N_then_ret ?_
                        exact N_ret1 rfl (rv_tmp rfl) (fun w hh => ⟨(), rfl, hh.sel [] rfl⟩)
                      · refine JL_q (wants_some rfl rfl rfl h134) rfl (ex_move rfl) ?_
                        refine JL_q (wants_some rfl rfl rfl h134) rfl (ex_move rfl) ?_
                        refine JL_q (wants_some rfl rfl rfl h134) rfl (ex_neq rfl rfl) ?_
                        refine JL_q (wants_none rfl) rfl (ex_pick_false rfl h134 rfl) ?_
                        refine JL_nil ?_
                        refine N_then ?_
                        refine J_if rfl (fun h135 => ?_) (fun h135 => ?_)
                        · refine J_seq ?_
                          refine J_region ?_
                          refine JL_q (wants_none rfl) rfl (ex_assign rfl) ?_
                          refine JL_nil ?_
                          refine N_then ?_
                          refine J_ret ?_
                          refine N_then_ret ?_
                          exact N_ret1 rfl (rv_tmp rfl) (fun w hh => ⟨(), rfl, hh.sel [] rfl⟩)
                        · refine J_skip ?_
                          refine N_then ?_
                          refine J_seq ?_
                          refine J_region ?_
                          refine JL_q (wants_none rfl) rfl (ex_assign rfl) ?_
                          refine JL_nil ?_
                          refine N_then ?_
                          refine J_seq ?_
                          refine J_region ?_
                          refine JL_q (wants_none rfl) rfl (ex_load_bx_agg 7 ti_39 rfl rfl rfl rfl) ?_
                          refine JL_q (wants_none rfl) rfl (ex_move rfl) ?_
                          refine JL_bnd fun r136 hr137 => ?_
                          refine JL_call (wants_none rfl) rfl Try.call23 rfl (Ca_of0 fun w hh => c_laws_heldConfig _ w (fun _ hk => hk.elim) _ _ (GConfig.rdmk (Rd.mk_int _ _ _) (hh.rd0 3 rfl) (hh.rd0 5 rfl)) _ _ hr137) (fun _ => ?_)
                          refine JL_q (wants_none rfl) rfl (ex_assign rfl) ?_
                          refine JL_nil ?_
                          refine N_then ?_
                          refine J_seq ?_
                          refine J_seq ?_
                          refine J_region ?_
                          refine JL_q (wants_none rfl) rfl (ex_move rfl) ?_
                          refine JL_q (wants_none rfl) rfl (ex_lss rfl rfl) ?_
                          refine JL_nil ?_
                          refine N_then ?_
                          refine J_if rfl (fun h138 => ?_) (fun h138 => ?_)
                          · refine J_seq ?_
                            refine J_region ?_
                            refine JL_q (wants_none rfl) rfl (ex_assign rfl) ?_
                            refine JL_nil ?_
                            refine N_then ?_
                            refine J_ret ?_
                            refine N_then_ret ?_
                            exact N_ret1 rfl (rv_tmp rfl) (fun w hh => ⟨(), rfl, hh.sel [] rfl⟩)
                          · refine J_skip ?_
                            refine N_then ?_
                            refine J_seq ?_
                            refine J_seq ?_
                            refine J_region ?_
                            refine JL_q (wants_none rfl) rfl (ex_move rfl) ?_
                            refine JL_q (wants_none rfl) rfl (ex_move rfl) ?_
                            refine JL_q (wants_none rfl) rfl (ex_neq rfl rfl) ?_
                            refine JL_nil ?_
                            refine N_then ?_
                            refine J_if rfl (fun h139 => ?_) (fun h139 => ?_)
                            · refine J_seq ?_
                              refine J_region ?_
                              refine JL_q (wants_none rfl) rfl (ex_assign rfl) ?_
                              refine JL_nil ?_
                              refine N_then ?_
                              refine J_ret ?_
                              refine N_then_ret ?_
                              exact N_ret1 rfl (rv_tmp rfl) (fun w hh => ⟨(), rfl, hh.sel [] rfl⟩)
                            · refine J_skip ?_
                              refine N_then ?_
                              refine J_seq ?_
                              refine J_region ?_
                              refine JL_q (wants_none rfl) rfl (ex_assign rfl) ?_
                              refine JL_nil ?_
                              refine N_then ?_
                              refine J_ret ?_
                              exact N_ret1 rfl (rv_tmp rfl) (fun w hh => ⟨(), rfl, hh.sel [] rfl⟩)

end Go.Proofs.Ytceimgjcikkadaa
