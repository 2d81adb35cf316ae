/-
  Each function of the program computes what its plain function says: printed by program. No condition.
-/
import Derived.Test.YtcgaddlkebifdaaFn
import Derived.Test.YtcgaddlkebifdaaInf
import Derived.Test.YtcgaddlkebifdaaCon2
import Derived.Test.YtcgaddlkebifdaaCon3
namespace Go.Proofs.Ytcgaddlkebifdaa
open Go Go.Tc Go.Fn
set_option linter.unusedVariables false

set_option maxHeartbeats 40000000 in
theorem c_impl_tracked (A : Nat → Prop) (w : World) (hA : ∀ k, A k → k < w.heap.size) (v0_ : Value) (p0 : GMachine) (hp0 : Rd A w v0_ p0) (p1 : Int) (r : ((List Int) × (List Grecord) × Int × Int) × Bool × Int) (hr : F_impl_tracked p0 p1 = some r) :
    Con Try.prog 24 [v0_, .int .i64 p1] A w (fun x_ : Value × Value × List Nat × Nat => .tuple #[.pointer (some ⟨x_.2.2.2, 0, none⟩), .bool r.2.1, .int .i64 r.2.2]) (fun x_ => [.ow 2 x_.1 r.1.1, .od 72 x_.2.1 r.1.2.1 x_.2.2.1, .bx x_.2.2.2 70 [x_.1, x_.2.1, .int .i64 r.1.2.2.1, .int .i64 r.1.2.2.2]]) := by
  obtain ⟨v0_0, rfl, hp0_0⟩ := GMachine.open hp0
  refine Con_of (v := fun (r : ((List Int) × (List Grecord) × Int × Int) × Bool × Int) (x_ : Value × Value × List Nat × Nat) => .tuple #[.pointer (some ⟨x_.2.2.2, 0, none⟩), .bool r.2.1, .int .i64 r.2.2]) (fs := fun r x_ => [.ow 2 x_.1 r.1.1, .od 72 x_.2.1 r.1.2.1 x_.2.2.1, .bx x_.2.2.2 70 [x_.1, x_.2.1, .int .i64 r.1.2.2.1, .int .i64 r.1.2.2.2]]) Try.func24 rfl Try.ntmps24 rfl ((SH.start hA).start_rd rfl hp0_0) rfl ?_ hr
  unfold F_impl_tracked
  refine J_seq ?_
  refine J_region ?_
  refine JL_st (wants_none rfl) rfl (st_box' rfl (fun w hh => (cv_aggs ⟨cv_int, cv_int, (hh.cv 0 rfl), trivial⟩))) (fun b1 => ?_)
  refine JL_q (wants_none rfl) rfl (ex_assign rfl) ?_
  refine JL_q (wants_none rfl) rfl (ex_assign rfl) ?_
  refine JL_q (wants_none rfl) rfl (ex_assign rfl) ?_
  refine JL_nil ?_
  refine N_then ?_
  refine J_seq ?_
  refine J_region ?_
  refine JL_q (wants_none rfl) rfl (ex_build si_70 rfl .nil (fun w hh => trivial)) ?_
  refine JL_st (wants_none rfl) rfl (st_box' rfl (fun w hh => (cv_aggs ⟨cv_slice, cv_slice, cv_int, cv_int, trivial⟩))) (fun b2 => ?_)
  refine JL_q (wants_none rfl) rfl (ex_assign rfl) ?_
  refine JL_nil ?_
  refine N_then ?_
  refine J_seq ?_
  refine J_region ?_
  refine JL_q (wants_none rfl) rfl (ex_load_bx_agg 1 ti_26 rfl rfl rfl rfl) ?_
  refine JL_q (wants_none rfl) rfl (ex_build si_35 rfl .nil (fun w hh => trivial)) ?_
  refine JL_q (wants_none rfl) rfl (ex_move rfl) ?_
  refine JL_q (wants_none rfl) rfl (ex_move rfl) ?_
  refine JL_q (wants_none rfl) rfl (ex_mkiface Try.underlying63 rfl) ?_
  refine JL_inline (wants_none rfl) rfl Try.call22 rfl Try.func22 rfl Try.ntmps22 rfl rfl (fun K_ hK3 => ?_)
  refine J_seq ?_
  refine J_region ?_
  refine JL_st (wants_none rfl) rfl (st_box' rfl (fun w hh => (cv_aggs ⟨cv_int, cv_int, (hh.cv 2 rfl), trivial⟩))) (fun b4 => ?_)
  refine JL_st (wants_none rfl) rfl (st_box' rfl (fun w hh => (cv_aggs ⟨cv_int, cv_slice, cv_slice, trivial⟩))) (fun b5 => ?_)
  refine JL_q (wants_none rfl) rfl (ex_assign rfl) ?_
  refine JL_q (wants_none rfl) rfl (ex_assign rfl) ?_
  refine JL_q (wants_none rfl) rfl (ex_assign rfl) ?_
  refine JL_nil ?_
  refine N_then ?_
  refine J_seq ?_
  refine J_region ?_
  refine JL_q (wants_none rfl) rfl (ex_load_bx_agg 1 ti_26 rfl rfl rfl rfl) ?_
  refine JL_q (wants_none rfl) rfl (ex_load_bx_agg 0 ti_35 rfl rfl rfl rfl) ?_
  refine JL_bnd fun r6 hr7 => ?_
  refine JL_call (wants_none rfl) rfl Try.call42 rfl (Ca_of (fun _ => rfl) fun w hh => c_impl_runnerOf _ w hh.av' _ _ (GMachine.rdmk (Rd.mk_int _ _ _) (Rd.mk_int _ _ _) (hh.rd 4 rfl)) _ _ (GConfig.rdmk (Rd.mk_int _ _ _) rdNil rdNil) _ hr7) (fun x8 => ?_)
  obtain ⟨x8_0, x8_1, x8_2, x8_3⟩ := x8
  refine JL_q (wants_none rfl) rfl (ex_assign rfl) ?_
  refine JL_q (wants_none rfl) rfl (ex_assign rfl) ?_
  refine JL_nil ?_
  refine N_then ?_
  refine J_seq ?_
  refine J_region ?_
  refine JL_q (wants_none rfl) rfl (ex_assign rfl) ?_
  refine JL_nil ?_
  refine N_then ?_
  refine J_ctx (fun w hh => SH.ow_nil (α := Int) 2 hh) ?_
  refine J_ctx (fun w hh => SH.od_nil (α := Grecord) 72 hh) ?_
  refine J_loop' (S := (List Int) × (List Grecord) × Int × Int × Int × (List Int) × (List Int) × Int × Int) (G := Value × Value × List Nat × Value × Value) (F_impl_tracked_L1 p1 r6) (fun s9 g10 => [(2, .int .i64 p1), (3, .iface 63 (.pointer (some ⟨b2, 0, none⟩))), (11, .pointer (some ⟨x8_3, 0, none⟩)), (12, .int .i64 s9.2.2.2.2.2.2.2.1), (13, .int .i64 s9.2.2.2.2.2.2.2.2)]) (fun s9 g10 => [.ow 2 g10.1 s9.1, .od 72 g10.2.1 s9.2.1 g10.2.2.1, .bx b2 70 [g10.1, g10.2.1, .int .i64 s9.2.2.1, .int .i64 s9.2.2.2.1], .rd x8_0 r6.2.2.1, .ow 2 g10.2.2.2.1 s9.2.2.2.2.2.1, .ow 2 g10.2.2.2.2 s9.2.2.2.2.2.2.1, .bx x8_3 112 [.int .i64 r6.1, .int .i64 r6.2.1, x8_0, .int .i64 s9.2.2.2.2.1, g10.2.2.2.1, g10.2.2.2.2]]) (([] : (List Int)), ([] : (List Grecord)), 0, 0, r6.2.2.2.1, r6.2.2.2.2.1, r6.2.2.2.2.2, 0, 0) ((.slice none 0 0 : Value), (.slice none 0 0 : Value), ([] : List Nat), x8_1, x8_2) ⟨rfl, rfl, rfl, rfl, rfl, trivial⟩ [1, 0, 8, 2, 3, 4, 5] rfl rfl (fun s9 g10 => ?_) (fun s9 g10 => ?_)
  · obtain ⟨g10_0, g10_1, g10_2, g10_3, g10_4⟩ := g10
    unfold F_impl_tracked_L1
    refine J_seq ?_
    refine J_block ?_
    refine J_seq ?_
    refine J_region ?_
    refine JL_q (wants_none rfl) rfl (ex_move rfl) ?_
    refine JL_q (wants_none rfl) rfl (ex_move rfl) ?_
    refine JL_q (wants_none rfl) rfl (ex_move rfl) ?_
    refine JL_inlinem (wants_none rfl) rfl rfl rfl (me_63_103 _ _ _) Try.func103 rfl Try.ntmps103 rfl rfl (fun K_ hK11 => ?_)
    refine J_seq ?_
    refine J_block ?_
    refine J_seq ?_
    refine J_region ?_
    refine JL_q (wants_none rfl) rfl (ex_move rfl) ?_
    refine JL_q (wants_none rfl) rfl (ex_move rfl) ?_
    refine JL_q (wants_none rfl) rfl (ex_nilCheck rfl) ?_
    refine JL_q (wants_none rfl) rfl (ex_fieldAddr fi_70_2 rfl rfl) ?_
    refine JL_q (wants_none rfl) rfl (ex_load_bx 2 ti_2 rfl rfl rfl) ?_
    refine JL_q (wants_none rfl) rfl (ex_gtr rfl rfl) ?_
    refine JL_q (wants_none rfl) rfl (ex_assign rfl) ?_
    refine JL_nil ?_
    refine N_then ?_
    refine J_if rfl (fun h12 => ?_) (fun h12 => ?_)
    · refine J_seq ?_
      refine J_region ?_
      refine JL_q (wants_none rfl) rfl (ex_move rfl) ?_
      refine JL_q (wants_none rfl) rfl (ex_move rfl) ?_
      refine JL_q (wants_none rfl) rfl (ex_nilCheck rfl) ?_
      refine JL_q (wants_none rfl) rfl (ex_fieldAddr fi_70_2 rfl rfl) ?_
      refine JL_sk (wants_none rfl) (sk_store_bx' 2 ti_2 rfl rfl (fun w hh => cv_int) rfl rfl rfl rfl) ?_
      refine JL_nil ?_
      refine N_then ?_
      refine J_draw [1, 2] (by kernel_rfl) ?_
      refine JP_take (i := 0) [0, 3, 4, 5, 6] [1, 2] rfl (by kernel_rfl) (by kernel_rfl) (by kernel_rfl) rfl rfl (wants_none rfl) rfl (ex_move rfl) ?_
      refine JP_take (i := 1) [0, 3, 4, 5, 6] [1, 2] rfl (by kernel_rfl) (by kernel_rfl) (by kernel_rfl) rfl rfl (wants_none rfl) rfl (ex_move rfl) ?_
      refine JP_take (i := 2) [0, 3, 4, 5, 6] [1, 2] rfl (by kernel_rfl) (by kernel_rfl) (by kernel_rfl) rfl rfl (wants_none rfl) rfl (ex_nilCheck rfl) ?_
      refine JP_take (i := 3) [0, 3, 4, 5, 6] [1, 2] rfl (by kernel_rfl) (by kernel_rfl) (by kernel_rfl) rfl rfl (wants_none rfl) rfl (ex_fieldAddr fi_70_0 rfl rfl) ?_
      refine JP_take (i := 4) [0, 3, 4, 5, 6] [1, 2] rfl (by kernel_rfl) (by kernel_rfl) (by kernel_rfl) rfl rfl (wants_none rfl) rfl (ex_fieldAddr fi_68_1 rfl rfl) ?_
      refine JP_take (i := 6) [0, 3, 4, 5, 6] [1, 2] rfl (by kernel_rfl) (by kernel_rfl) (by kernel_rfl) rfl rfl (wants_none rfl) rfl (ex_move rfl) ?_
      refine JP_take (i := 7) [0, 3, 4, 5, 6] [1, 2] rfl (by kernel_rfl) (by kernel_rfl) (by kernel_rfl) rfl rfl (wants_none rfl) rfl (ex_nilCheck rfl) ?_
      refine JP_take (i := 8) [0, 3, 4, 5, 6] [1, 2] rfl (by kernel_rfl) (by kernel_rfl) (by kernel_rfl) rfl rfl (wants_none rfl) rfl (ex_fieldAddr fi_70_0 rfl rfl) ?_
      refine JP_take (i := 9) [0, 3, 4, 5, 6] [1, 2] rfl (by kernel_rfl) (by kernel_rfl) (by kernel_rfl) rfl rfl (wants_none rfl) rfl (ex_fieldAddr fi_68_0 rfl rfl) ?_
      refine JP_take (i := 12) [0, 3, 4, 5, 6] [1, 2] rfl (by kernel_rfl) (by kernel_rfl) (by kernel_rfl) rfl rfl (wants_none rfl) rfl (ex_move rfl) ?_
      refine JP_go [0, 3, 4, 5, 6] [1, 2] rfl rfl rfl (fun w14 h1_15 hp13 => ?_)
      refine JD_two (i := 5) (j := 10) (by kernel_rfl) ?_ ?_
      · refine JO_q rfl (wants_none rfl) rfl (ex_load_bx 2 ti_66 rfl rfl rfl) ?_
        refine JD_one (i := 10) (by kernel_rfl) ?_
        refine JO_q rfl (wants_none rfl) rfl (ex_load_bx 2 ti_33 rfl rfl rfl) ?_
        refine JD_bnd fun r16 hr17 => ?_
        refine JD_one (i := 11) (by kernel_rfl) ?_
        refine JO_call rfl (wants_none rfl) rfl Try.call34 rfl (Ca_of0 fun w hh => c_impl_size_int64 _ w (fun _ hk => hk.elim) _ _ (hh.ow0 0 rfl) _ hr17) (fun _ => ?_)
        refine JD_bnd fun r18 hr19 => ?_
        refine JD_one (i := 13) (by kernel_rfl) ?_
        refine JO_call rfl (wants_none rfl) rfl Try.call44 rfl (Ca_self (fun _ => rfl) fun w hh => c_impl_runner_config _ w (fun _ hk => hk.elim) _ _ (hh.bx_pa 6 rfl (Grunner.rdmk (Rd.mk_int _ _ _) (Rd.mk_int _ _ _) (hh.rd0 3 rfl) (Rd.mk_int _ _ _) (hh.ow0 4 rfl) (hh.ow0 5 rfl)) rfl) _ hr19) (fun x20 => ?_)
        obtain ⟨x20_0, x20_1⟩ := x20
        refine JD_one (i := 14) (by kernel_rfl) ?_
        refine JO_q rfl (wants_none rfl) rfl (ex_buildN [(0, .int .i64 r16, [.int .i64 r16]), (1, .int .i64 1, [.int .i64 1]), (2, .agg #[.int .i64 r18.State, x20_0, x20_1], [.int .i64 r18.State, x20_0, x20_1])] si_72 rfl (.cons fi_72_0 rfl rfl rfl (.cons fi_72_1 rfl rfl rfl (.cons fi_72_2 rfl rfl rfl .nil))) (fun w hh => ⟨cv_int, cv_int, (cv_aggs ⟨cv_int, (hh.cv_ow 0 rfl), (hh.cv_ow 1 rfl), trivial⟩), trivial⟩)) ?_
        refine JD_one (i := 15) (by kernel_rfl) ?_
        refine JO_ctx (fun w hh => hh.tokf 0 rfl rfl) (tokf_owns (i := 0) rfl) ?_
        refine JO_ctx (fun w hh => hh.tokf 2 rfl rfl) (tokf_owns (i := 2) rfl) ?_
        refine JO_st rfl (wants_none rfl) rfl (st_buildSlice_od (vs := [.agg #[.int .i64 r16, .int .i64 1, .int .i64 r18.State, x20_0, x20_1]]) (B := (((x20_0 : Value).ownBlock.toList ++ []) ++ (((x20_1 : Value).ownBlock.toList ++ []) ++ []))) ([(⟨r16, 1, r18.State, r18.Left, r18.Right⟩ : Grecord)] : List Grecord) [1, 0] Try.underlying66 ti_72 zi_72 rfl rfl rfl rfl rfl (fun w hh => (dwv_cons (Grecord.dw (hh.dw 1 rfl) (hh.dw 0 rfl)) dwv_nil))) (fun _ hk => nomatch hk) (fun b21 => ?_)
        refine JD_bnd fun z22 hz23 => ?_
        refine JD_one (i := 16) (by kernel_rfl) ?_
        refine JO_st rfl (wants_none rfl) rfl (st_append_od 6 0 Try.underlying66 ti_72 zi_72 rfl bi_72 rfl rfl rfl rfl rfl rfl hz23) (sub_od 0 rfl) (fun v24 => ?_)
        refine JD_take (i := 17) hp13 rfl (by kernel_rfl) (by kernel_rfl) (by kernel_rfl) (wants_none rfl) rfl (ex_nilCheck rfl) ?_
        refine JD_take (i := 18) hp13 rfl (by kernel_rfl) (by kernel_rfl) (by kernel_rfl) (wants_none rfl) rfl (ex_fieldAddr fi_70_0 rfl rfl) ?_
        refine JD_take (i := 19) hp13 rfl (by kernel_rfl) (by kernel_rfl) (by kernel_rfl) (wants_none rfl) rfl (ex_fieldAddr fi_68_1 rfl rfl) ?_
        refine JD_one (i := 20) (by kernel_rfl) ?_
        refine JO_sk rfl (wants_none rfl) (sk_store_bx' 7 ti_66 rfl rfl (fun w hh => (hh.cv_od 6 rfl)) rfl rfl rfl rfl) (sub_bx 1 rfl) ?_
        refine JD_done (by kernel_rfl) ?_
        refine N_block ?_
        refine N_then ?_
        refine J_region ?_
        refine JL_q (wants_none rfl) rfl (ex_move rfl) ?_
        refine JL_q (wants_none rfl) rfl (ex_move rfl) ?_
        refine JL_q (wants_none rfl) rfl (ex_nilCheck rfl) ?_
        refine JL_q (wants_none rfl) rfl (ex_fieldAddr fi_70_0 rfl rfl) ?_
        refine JL_q (wants_none rfl) rfl (ex_fieldAddr fi_68_0 rfl rfl) ?_
        refine JL_q (wants_none rfl) rfl (ex_load_bx 7 ti_33 rfl rfl rfl) ?_
        refine JL_q (wants_none rfl) rfl (ex_move rfl) ?_
        refine JL_st (wants_none rfl) rfl (st_buildSlice (vs := [.int .i64 s9.2.2.2.2.2.2.2.1]) ([s9.2.2.2.2.2.2.2.1] : List Int) Try.underlying33 ti_2 zi_2 rfl rfl rfl (fun w hh => ⟨(Rd.mk_int _ _ _), trivial⟩)) (fun b25 => ?_)
        refine JL_bnd fun z26 hz27 => ?_
        refine JL_st (wants_none rfl) rfl (st_append 6 Try.underlying33 ti_2 zi_2 rfl bi_2 rfl rfl rfl rfl (fun w hh => hh.src_ow 0 rfl) hz27) (fun v28 => ?_)
        refine JL_q (wants_none rfl) rfl (ex_nilCheck rfl) ?_
        refine JL_q (wants_none rfl) rfl (ex_fieldAddr fi_70_0 rfl rfl) ?_
        refine JL_q (wants_none rfl) rfl (ex_fieldAddr fi_68_0 rfl rfl) ?_
        refine JL_sk (wants_none rfl) (sk_store_bx' 8 ti_33 rfl rfl (fun w hh => (hh.cv_ow 6 rfl)) rfl rfl rfl rfl) ?_
        refine JL_nil ?_
        refine N_inl0 (.inr rfl) hK11 rfl ?_
        refine JL_nil ?_
        refine N_then ?_
        refine J_seq ?_
        refine J_cut' (S' := Unit) (G' := Unit) (fun _ _ => [(2, .int .i64 p1), (3, .iface 63 (.pointer (some ⟨b2, 0, none⟩))), (11, .pointer (some ⟨x8_3, 0, none⟩)), (12, .int .i64 s9.2.2.2.2.2.2.2.1), (13, .int .i64 s9.2.2.2.2.2.2.2.2)]) (fun _ _ => [.ow 2 v28 z26, .od 72 v24 z22 (g10_2 ++ (((x20_0 : Value).ownBlock.toList ++ []) ++ (((x20_1 : Value).ownBlock.toList ++ []) ++ []))), .bx b2 70 [v28, v24, .int .i64 s9.2.2.1, .int .i64 s9.2.2.2.2.2.2.2.1], .rd x8_0 r6.2.2.1, .ow 2 g10_3 s9.2.2.2.2.2.1, .ow 2 g10_4 s9.2.2.2.2.2.2.1, .bx x8_3 112 [.int .i64 r6.1, .int .i64 r6.2.1, x8_0, .int .i64 s9.2.2.2.2.1, g10_3, g10_4]]) ?_ (fun s29 g30 => ?_)
        · refine J_seq ?_
          refine J_region ?_
          refine JL_q (wants_none rfl) rfl (ex_move rfl) ?_
          refine JL_q (wants_none rfl) rfl (ex_move rfl) ?_
          refine JL_q (wants_none rfl) rfl (ex_eql rfl rfl) ?_
          refine JL_q (wants_none rfl) rfl (ex_move rfl) ?_
          refine JL_cond (fun h31 => ?_) (fun h31 => ?_)
          · refine JL_passed rfl rfl rfl h31 ?_
            refine JL_passed rfl rfl rfl h31 ?_
            refine JL_q (wants_none rfl) rfl (ex_pick_true rfl h31 rfl) ?_
            refine JL_nil ?_
            refine N_then ?_
            refine J_if_true rfl rfl ?_
            refine J_seq ?_
            refine J_region ?_
            refine JL_q (wants_none rfl) rfl (ex_move rfl) ?_
            refine JL_q (wants_none rfl) rfl (ex_move rfl) ?_
            refine JL_bnd fun r32 hr33 => ?_
            refine JL_call (wants_none rfl) rfl Try.call51 rfl (Ca_of0 fun w hh => c_impl_runner_halts _ w (fun _ hk => hk.elim) _ _ (hh.bx_pa 12 rfl (Grunner.rdmk (Rd.mk_int _ _ _) (Rd.mk_int _ _ _) (hh.rd0 9 rfl) (Rd.mk_int _ _ _) (hh.ow0 10 rfl) (hh.ow0 11 rfl)) rfl) _ hr33) (fun _ => ?_)
            refine JL_q (wants_none rfl) rfl (ex_assign rfl) ?_
            refine JL_q (wants_none rfl) rfl (ex_assign rfl) ?_
            refine JL_q (wants_none rfl) rfl (ex_assign rfl) ?_
            refine JL_nil ?_
            refine N_then ?_
            refine J_ret ?_
            refine N_mid_ret ?_
            refine N_then_ret ?_
            refine N_block_ret ?_
            refine N_then_ret ?_
            refine N_round_reti ?_
            refine N_inl3 hK3 rfl (rv_tmp rfl) (rv_tmp rfl) (rv_tmp rfl) ?_
            refine JL_q (wants_none rfl) rfl (ex_move rfl) ?_
            refine JL_q (wants_none rfl) rfl (ex_extract rfl rfl) ?_
            refine JL_q (wants_none rfl) rfl (ex_extract rfl rfl) ?_
            refine JL_q (wants_none rfl) rfl (ex_extract rfl rfl) ?_
            refine JL_q (wants_none rfl) rfl (ex_assign rfl) ?_
            refine JL_q (wants_none rfl) rfl (ex_assign rfl) ?_
            refine JL_q (wants_none rfl) rfl (ex_assign rfl) ?_
            refine JL_nil ?_
            refine N_then ?_
            refine J_seq ?_
            refine J_region ?_
            refine JL_q (wants_none rfl) rfl (ex_move rfl) ?_
            refine JL_q (wants_none rfl) rfl (ex_move rfl) ?_
            refine JL_q (wants_none rfl) rfl (ex_move rfl) ?_
            refine JL_q (wants_none rfl) rfl (ex_assign rfl) ?_
            refine JL_q (wants_none rfl) rfl (ex_assign rfl) ?_
            refine JL_q (wants_none rfl) rfl (ex_assign rfl) ?_
            refine JL_nil ?_
            refine N_then ?_
            refine J_ret ?_
            exact N_ret3 rfl (rv_tmp rfl) (rv_tmp rfl) (rv_tmp rfl) (fun w hh => ⟨(v28, v24, (g10_2 ++ (((x20_0 : Value).ownBlock.toList ++ []) ++ (((x20_1 : Value).ownBlock.toList ++ []) ++ []))), b2), rfl, hh.sel [6, 7, 8] rfl⟩)
          · refine JL_q (wants_some rfl rfl rfl h31) rfl (ex_move rfl) ?_
            refine JL_bnd fun r34 hr35 => ?_
            refine JL_call (wants_some rfl rfl rfl h31) rfl Try.call51 rfl (Ca_of0 fun w hh => c_impl_runner_halts _ w (fun _ hk => hk.elim) _ _ (hh.bx_pa 12 rfl (Grunner.rdmk (Rd.mk_int _ _ _) (Rd.mk_int _ _ _) (hh.rd0 9 rfl) (Rd.mk_int _ _ _) (hh.ow0 10 rfl) (hh.ow0 11 rfl)) rfl) _ hr35) (fun _ => ?_)
            refine JL_q (wants_none rfl) rfl (ex_pick_false rfl h31 rfl) ?_
            refine JL_nil ?_
            refine N_then ?_
            refine J_if rfl (fun h36 => ?_) (fun h36 => ?_)
            · refine J_seq ?_
              refine J_region ?_
              refine JL_q (wants_none rfl) rfl (ex_move rfl) ?_
              refine JL_q (wants_none rfl) rfl (ex_move rfl) ?_
              refine JL_bnd fun r37 hr38 => ?_
              refine JL_call (wants_none rfl) rfl Try.call51 rfl (Ca_of0 fun w hh => c_impl_runner_halts _ w (fun _ hk => hk.elim) _ _ (hh.bx_pa 12 rfl (Grunner.rdmk (Rd.mk_int _ _ _) (Rd.mk_int _ _ _) (hh.rd0 9 rfl) (Rd.mk_int _ _ _) (hh.ow0 10 rfl) (hh.ow0 11 rfl)) rfl) _ hr38) (fun _ => ?_)
              refine JL_q (wants_none rfl) rfl (ex_assign rfl) ?_
              refine JL_q (wants_none rfl) rfl (ex_assign rfl) ?_
              refine JL_q (wants_none rfl) rfl (ex_assign rfl) ?_
              refine JL_nil ?_
              refine N_then ?_
              refine J_ret ?_
              refine N_mid_ret ?_
              refine N_then_ret ?_
              refine N_block_ret ?_
              refine N_then_ret ?_
              refine N_round_reti ?_
              refine N_inl3 hK3 rfl (rv_tmp rfl) (rv_tmp rfl) (rv_tmp rfl) ?_
              refine JL_q (wants_none rfl) rfl (ex_move rfl) ?_
              refine JL_q (wants_none rfl) rfl (ex_extract rfl rfl) ?_
              refine JL_q (wants_none rfl) rfl (ex_extract rfl rfl) ?_
              refine JL_q (wants_none rfl) rfl (ex_extract rfl rfl) ?_
              refine JL_q (wants_none rfl) rfl (ex_assign rfl) ?_
              refine JL_q (wants_none rfl) rfl (ex_assign rfl) ?_
              refine JL_q (wants_none rfl) rfl (ex_assign rfl) ?_
              refine JL_nil ?_
              refine N_then ?_
              refine J_seq ?_
              refine J_region ?_
              refine JL_q (wants_none rfl) rfl (ex_move rfl) ?_
              refine JL_q (wants_none rfl) rfl (ex_move rfl) ?_
              refine JL_q (wants_none rfl) rfl (ex_move rfl) ?_
              refine JL_q (wants_none rfl) rfl (ex_assign rfl) ?_
              refine JL_q (wants_none rfl) rfl (ex_assign rfl) ?_
              refine JL_q (wants_none rfl) rfl (ex_assign rfl) ?_
              refine JL_nil ?_
              refine N_then ?_
              refine J_ret ?_
              exact N_ret3 rfl (rv_tmp rfl) (rv_tmp rfl) (rv_tmp rfl) (fun w hh => ⟨(v28, v24, (g10_2 ++ (((x20_0 : Value).ownBlock.toList ++ []) ++ (((x20_1 : Value).ownBlock.toList ++ []) ++ []))), b2), rfl, hh.sel [6, 7, 8] rfl⟩)
            · refine J_skip ?_
              exact N_meet' () ⟨rfl, rfl, rfl, rfl, rfl, trivial⟩ [6, 7, 8, 9, 10, 11, 12] rfl rfl
        · refine N_then ?_
          refine J_seq ?_
          refine J_region ?_
          refine JL_q (wants_none rfl) rfl (ex_move rfl) ?_
          refine JL_bnd fun r39 hr40 => ?_
          refine JL_call (wants_none rfl) rfl Try.call52 rfl (Ca_of0 fun w hh => c_impl_runner_rule _ w (fun _ hk => hk.elim) _ _ (hh.bx_pa 6 rfl (Grunner.rdmk (Rd.mk_int _ _ _) (Rd.mk_int _ _ _) (hh.rd0 3 rfl) (Rd.mk_int _ _ _) (hh.ow0 4 rfl) (hh.ow0 5 rfl)) rfl) _ hr40) (fun _ => ?_)
          refine JL_st (wants_none rfl) rfl (st_alloc zi_80 rfl) (fun b41 => ?_)
          refine JL_sk (wants_none rfl) (sk_store_bx' 0 ti_80 rfl rfl (fun w hh => (cv_aggs ⟨cv_int, cv_int, cv_int, trivial⟩)) rfl rfl rfl rfl) ?_
          refine JL_nil ?_
          refine N_then ?_
          refine J_seq ?_
          refine J_region ?_
          refine JL_q (wants_none rfl) rfl (ex_move rfl) ?_
          refine JL_q (wants_none rfl) rfl (ex_move rfl) ?_
          refine JL_q (wants_none rfl) rfl (ex_move rfl) ?_
          refine JL_q (wants_none rfl) rfl (ex_load_bx_agg 0 ti_80 rfl rfl rfl rfl) ?_
          refine JL_inlinem (wants_none rfl) rfl rfl rfl (me_63_104 _ _ _ _) Try.func104 rfl Try.ntmps104 rfl rfl (fun K_ hK42 => ?_)
          refine J_region ?_
          refine JL_st (wants_none rfl) rfl (st_box' rfl (fun w hh => (cv_aggs ⟨cv_int, cv_int, cv_int, trivial⟩))) (fun b43 => ?_)
          refine JL_nil ?_
          refine N_inl0 (.inr rfl) hK42 rfl ?_
          refine JL_nil ?_
          refine N_then ?_
          refine J_seq ?_
          refine J_seq ?_
          refine J_region ?_
          refine JL_q (wants_none rfl) rfl (ex_move rfl) ?_
          refine JL_bnd fun r44 hr45 => ?_
          refine JL_callT (wants_none rfl) rfl Try.call53 rfl (CaT_of [8, 6, 7] [0, 1, 2, 3, 4, 5] rfl rfl (fun _ => rfl) fun w hh => c_impl_runner_step w x8_3 (⟨r6.1, r6.2.1, r6.2.2.1, s9.2.2.2.2.1, s9.2.2.2.2.2.1, s9.2.2.2.2.2.2.1⟩ : Grunner) x8_0 g10_3 g10_4 _ rfl (hh.handed [8, 6, 7] rfl rfl rfl rfl) (hh.apart [8, 6, 7] rfl (hh.rd 5 rfl)) _ hr45) (fun x46 => ?_)
          obtain ⟨x46_0, x46_1⟩ := x46
          refine JL_q (wants_none rfl) rfl (ex_not rfl) ?_
          refine JL_nil ?_
          refine N_then ?_
          refine J_if rfl (fun h47 => ?_) (fun h47 => ?_)
          · refine J_seq ?_
            refine J_region ?_
            refine JL_q (wants_none rfl) rfl (ex_assign rfl) ?_
            refine JL_q (wants_none rfl) rfl (ex_assign rfl) ?_
            refine JL_q (wants_none rfl) rfl (ex_assign rfl) ?_
            refine JL_nil ?_
            refine N_then ?_
            refine J_ret ?_
            refine N_then_ret ?_
            refine N_block_ret ?_
            refine N_then_ret ?_
            refine N_round_reti ?_
            refine N_inl3 hK3 rfl (rv_tmp rfl) (rv_tmp rfl) (rv_tmp rfl) ?_
            refine JL_q (wants_none rfl) rfl (ex_move rfl) ?_
            refine JL_q (wants_none rfl) rfl (ex_extract rfl rfl) ?_
            refine JL_q (wants_none rfl) rfl (ex_extract rfl rfl) ?_
            refine JL_q (wants_none rfl) rfl (ex_extract rfl rfl) ?_
            refine JL_q (wants_none rfl) rfl (ex_assign rfl) ?_
            refine JL_q (wants_none rfl) rfl (ex_assign rfl) ?_
            refine JL_q (wants_none rfl) rfl (ex_assign rfl) ?_
            refine JL_nil ?_
            refine N_then ?_
            refine J_seq ?_
            refine J_region ?_
            refine JL_q (wants_none rfl) rfl (ex_move rfl) ?_
            refine JL_q (wants_none rfl) rfl (ex_move rfl) ?_
            refine JL_q (wants_none rfl) rfl (ex_move rfl) ?_
            refine JL_q (wants_none rfl) rfl (ex_assign rfl) ?_
            refine JL_q (wants_none rfl) rfl (ex_assign rfl) ?_
            refine JL_q (wants_none rfl) rfl (ex_assign rfl) ?_
            refine JL_nil ?_
            refine N_then ?_
            refine J_ret ?_
            exact N_ret3 rfl (rv_tmp rfl) (rv_tmp rfl) (rv_tmp rfl) (fun w hh => ⟨(v28, v24, (g10_2 ++ (((x20_0 : Value).ownBlock.toList ++ []) ++ (((x20_1 : Value).ownBlock.toList ++ []) ++ []))), b2), rfl, hh.sel [5, 6, 7] rfl⟩)
          · refine J_skip ?_
            refine N_then ?_
            refine J_region ?_
            refine JL_q (wants_none rfl) rfl (ex_move rfl) ?_
            refine JL_q (wants_none rfl) rfl (ex_fieldAddr fi_80_1 rfl rfl) ?_
            refine JL_q (wants_none rfl) rfl (ex_load_bx 4 ti_2 rfl rfl rfl) ?_
            refine JL_q (wants_none rfl) rfl (ex_add rfl rfl) ?_
            refine JL_q (wants_none rfl) rfl (ex_assign rfl) ?_
            refine JL_nil ?_
            refine N_block ?_
            refine N_then ?_
            refine J_region ?_
            refine JL_q (wants_none rfl) rfl (ex_move rfl) ?_
            refine JL_q (wants_none rfl) rfl (ex_add rfl rfl) ?_
            refine JL_q (wants_none rfl) rfl (ex_assign rfl) ?_
            refine JL_nil ?_
            exact N_next' (v28, v24, (g10_2 ++ (((x20_0 : Value).ownBlock.toList ++ []) ++ (((x20_1 : Value).ownBlock.toList ++ []) ++ []))), x46_0, x46_1) ⟨rfl, rfl, rfl, rfl, rfl, trivial⟩ [5, 6, 7, 8, 1, 2, 0] rfl rfl
      · refine JO_q rfl (wants_none rfl) rfl (ex_load_bx 2 ti_33 rfl rfl rfl) ?_
        refine JD_bnd fun r48 hr49 => ?_
        refine JD_two (i := 5) (j := 11) (by kernel_rfl) ?_ ?_
        · refine JO_q rfl (wants_none rfl) rfl (ex_load_bx 2 ti_66 rfl rfl rfl) ?_
          refine JD_one (i := 11) (by kernel_rfl) ?_
          refine JO_call rfl (wants_none rfl) rfl Try.call34 rfl (Ca_of0 fun w hh => c_impl_size_int64 _ w (fun _ hk => hk.elim) _ _ (hh.ow0 0 rfl) _ hr49) (fun _ => ?_)
          refine JD_bnd fun r50 hr51 => ?_
          refine JD_one (i := 13) (by kernel_rfl) ?_
          refine JO_call rfl (wants_none rfl) rfl Try.call44 rfl (Ca_self (fun _ => rfl) fun w hh => c_impl_runner_config _ w (fun _ hk => hk.elim) _ _ (hh.bx_pa 6 rfl (Grunner.rdmk (Rd.mk_int _ _ _) (Rd.mk_int _ _ _) (hh.rd0 3 rfl) (Rd.mk_int _ _ _) (hh.ow0 4 rfl) (hh.ow0 5 rfl)) rfl) _ hr51) (fun x52 => ?_)
          obtain ⟨x52_0, x52_1⟩ := x52
          refine JD_one (i := 14) (by kernel_rfl) ?_
          refine JO_q rfl (wants_none rfl) rfl (ex_buildN [(0, .int .i64 r48, [.int .i64 r48]), (1, .int .i64 1, [.int .i64 1]), (2, .agg #[.int .i64 r50.State, x52_0, x52_1], [.int .i64 r50.State, x52_0, x52_1])] si_72 rfl (.cons fi_72_0 rfl rfl rfl (.cons fi_72_1 rfl rfl rfl (.cons fi_72_2 rfl rfl rfl .nil))) (fun w hh => ⟨cv_int, cv_int, (cv_aggs ⟨cv_int, (hh.cv_ow 0 rfl), (hh.cv_ow 1 rfl), trivial⟩), trivial⟩)) ?_
          refine JD_one (i := 15) (by kernel_rfl) ?_
          refine JO_ctx (fun w hh => hh.tokf 0 rfl rfl) (tokf_owns (i := 0) rfl) ?_
          refine JO_ctx (fun w hh => hh.tokf 2 rfl rfl) (tokf_owns (i := 2) rfl) ?_
          refine JO_st rfl (wants_none rfl) rfl (st_buildSlice_od (vs := [.agg #[.int .i64 r48, .int .i64 1, .int .i64 r50.State, x52_0, x52_1]]) (B := (((x52_0 : Value).ownBlock.toList ++ []) ++ (((x52_1 : Value).ownBlock.toList ++ []) ++ []))) ([(⟨r48, 1, r50.State, r50.Left, r50.Right⟩ : Grecord)] : List Grecord) [1, 0] Try.underlying66 ti_72 zi_72 rfl rfl rfl rfl rfl (fun w hh => (dwv_cons (Grecord.dw (hh.dw 1 rfl) (hh.dw 0 rfl)) dwv_nil))) (fun _ hk => nomatch hk) (fun b53 => ?_)
          refine JD_bnd fun z54 hz55 => ?_
          refine JD_one (i := 16) (by kernel_rfl) ?_
          refine JO_st rfl (wants_none rfl) rfl (st_append_od 6 0 Try.underlying66 ti_72 zi_72 rfl bi_72 rfl rfl rfl rfl rfl rfl hz55) (sub_od 0 rfl) (fun v56 => ?_)
          refine JD_take (i := 17) hp13 rfl (by kernel_rfl) (by kernel_rfl) (by kernel_rfl) (wants_none rfl) rfl (ex_nilCheck rfl) ?_
          refine JD_take (i := 18) hp13 rfl (by kernel_rfl) (by kernel_rfl) (by kernel_rfl) (wants_none rfl) rfl (ex_fieldAddr fi_70_0 rfl rfl) ?_
          refine JD_take (i := 19) hp13 rfl (by kernel_rfl) (by kernel_rfl) (by kernel_rfl) (wants_none rfl) rfl (ex_fieldAddr fi_68_1 rfl rfl) ?_
          refine JD_one (i := 20) (by kernel_rfl) ?_
          refine JO_sk rfl (wants_none rfl) (sk_store_bx' 7 ti_66 rfl rfl (fun w hh => (hh.cv_od 6 rfl)) rfl rfl rfl rfl) (sub_bx 1 rfl) ?_
          refine JD_done (by kernel_rfl) ?_
          refine N_block ?_
          refine N_then ?_
          refine J_region ?_
          refine JL_q (wants_none rfl) rfl (ex_move rfl) ?_
          refine JL_q (wants_none rfl) rfl (ex_move rfl) ?_
          refine JL_q (wants_none rfl) rfl (ex_nilCheck rfl) ?_
          refine JL_q (wants_none rfl) rfl (ex_fieldAddr fi_70_0 rfl rfl) ?_
          refine JL_q (wants_none rfl) rfl (ex_fieldAddr fi_68_0 rfl rfl) ?_
          refine JL_q (wants_none rfl) rfl (ex_load_bx 7 ti_33 rfl rfl rfl) ?_
          refine JL_q (wants_none rfl) rfl (ex_move rfl) ?_
          refine JL_st (wants_none rfl) rfl (st_buildSlice (vs := [.int .i64 s9.2.2.2.2.2.2.2.1]) ([s9.2.2.2.2.2.2.2.1] : List Int) Try.underlying33 ti_2 zi_2 rfl rfl rfl (fun w hh => ⟨(Rd.mk_int _ _ _), trivial⟩)) (fun b57 => ?_)
          refine JL_bnd fun z58 hz59 => ?_
          refine JL_st (wants_none rfl) rfl (st_append 6 Try.underlying33 ti_2 zi_2 rfl bi_2 rfl rfl rfl rfl (fun w hh => hh.src_ow 0 rfl) hz59) (fun v60 => ?_)
          refine JL_q (wants_none rfl) rfl (ex_nilCheck rfl) ?_
          refine JL_q (wants_none rfl) rfl (ex_fieldAddr fi_70_0 rfl rfl) ?_
          refine JL_q (wants_none rfl) rfl (ex_fieldAddr fi_68_0 rfl rfl) ?_
          refine JL_sk (wants_none rfl) (sk_store_bx' 8 ti_33 rfl rfl (fun w hh => (hh.cv_ow 6 rfl)) rfl rfl rfl rfl) ?_
          refine JL_nil ?_
          refine N_inl0 (.inr rfl) hK11 rfl ?_
          refine JL_nil ?_
          refine N_then ?_
          refine J_seq ?_
          refine J_cut' (S' := Unit) (G' := Unit) (fun _ _ => [(2, .int .i64 p1), (3, .iface 63 (.pointer (some ⟨b2, 0, none⟩))), (11, .pointer (some ⟨x8_3, 0, none⟩)), (12, .int .i64 s9.2.2.2.2.2.2.2.1), (13, .int .i64 s9.2.2.2.2.2.2.2.2)]) (fun _ _ => [.ow 2 v60 z58, .od 72 v56 z54 (g10_2 ++ (((x52_0 : Value).ownBlock.toList ++ []) ++ (((x52_1 : Value).ownBlock.toList ++ []) ++ []))), .bx b2 70 [v60, v56, .int .i64 s9.2.2.1, .int .i64 s9.2.2.2.2.2.2.2.1], .rd x8_0 r6.2.2.1, .ow 2 g10_3 s9.2.2.2.2.2.1, .ow 2 g10_4 s9.2.2.2.2.2.2.1, .bx x8_3 112 [.int .i64 r6.1, .int .i64 r6.2.1, x8_0, .int .i64 s9.2.2.2.2.1, g10_3, g10_4]]) ?_ (fun s61 g62 => ?_)
          · refine J_seq ?_
            refine J_region ?_
            refine JL_q (wants_none rfl) rfl (ex_move rfl) ?_
            refine JL_q (wants_none rfl) rfl (ex_move rfl) ?_
            refine JL_q (wants_none rfl) rfl (ex_eql rfl rfl) ?_
            refine JL_q (wants_none rfl) rfl (ex_move rfl) ?_
            refine JL_cond (fun h63 => ?_) (fun h63 => ?_)
            · refine JL_passed rfl rfl rfl h63 ?_
              refine JL_passed rfl rfl rfl h63 ?_
              refine JL_q (wants_none rfl) rfl (ex_pick_true rfl h63 rfl) ?_
              refine JL_nil ?_
              refine N_then ?_
              refine J_if_true rfl rfl ?_
              refine J_seq ?_
              refine J_region ?_
              refine JL_q (wants_none rfl) rfl (ex_move rfl) ?_
              refine JL_q (wants_none rfl) rfl (ex_move rfl) ?_
              refine JL_bnd fun r64 hr65 => ?_
              refine JL_call (wants_none rfl) rfl Try.call51 rfl (Ca_of0 fun w hh => c_impl_runner_halts _ w (fun _ hk => hk.elim) _ _ (hh.bx_pa 12 rfl (Grunner.rdmk (Rd.mk_int _ _ _) (Rd.mk_int _ _ _) (hh.rd0 9 rfl) (Rd.mk_int _ _ _) (hh.ow0 10 rfl) (hh.ow0 11 rfl)) rfl) _ hr65) (fun _ => ?_)
              refine JL_q (wants_none rfl) rfl (ex_assign rfl) ?_
              refine JL_q (wants_none rfl) rfl (ex_assign rfl) ?_
              refine JL_q (wants_none rfl) rfl (ex_assign rfl) ?_
              refine JL_nil ?_
              refine N_then ?_
              refine J_ret ?_
              refine N_mid_ret ?_
              refine N_then_ret ?_
              refine N_block_ret ?_
              refine N_then_ret ?_
              refine N_round_reti ?_
              refine N_inl3 hK3 rfl (rv_tmp rfl) (rv_tmp rfl) (rv_tmp rfl) ?_
              refine JL_q (wants_none rfl) rfl (ex_move rfl) ?_
              refine JL_q (wants_none rfl) rfl (ex_extract rfl rfl) ?_
              refine JL_q (wants_none rfl) rfl (ex_extract rfl rfl) ?_
              refine JL_q (wants_none rfl) rfl (ex_extract rfl rfl) ?_
              refine JL_q (wants_none rfl) rfl (ex_assign rfl) ?_
              refine JL_q (wants_none rfl) rfl (ex_assign rfl) ?_
              refine JL_q (wants_none rfl) rfl (ex_assign rfl) ?_
              refine JL_nil ?_
              refine N_then ?_
              refine J_seq ?_
              refine J_region ?_
              refine JL_q (wants_none rfl) rfl (ex_move rfl) ?_
              refine JL_q (wants_none rfl) rfl (ex_move rfl) ?_
              refine JL_q (wants_none rfl) rfl (ex_move rfl) ?_
              refine JL_q (wants_none rfl) rfl (ex_assign rfl) ?_
              refine JL_q (wants_none rfl) rfl (ex_assign rfl) ?_
              refine JL_q (wants_none rfl) rfl (ex_assign rfl) ?_
              refine JL_nil ?_
              refine N_then ?_
              refine J_ret ?_
              exact N_ret3 rfl (rv_tmp rfl) (rv_tmp rfl) (rv_tmp rfl) (fun w hh => ⟨(v60, v56, (g10_2 ++ (((x52_0 : Value).ownBlock.toList ++ []) ++ (((x52_1 : Value).ownBlock.toList ++ []) ++ []))), b2), rfl, hh.sel [6, 7, 8] rfl⟩)
            · refine JL_q (wants_some rfl rfl rfl h63) rfl (ex_move rfl) ?_
              refine JL_bnd fun r66 hr67 => ?_
              refine JL_call (wants_some rfl rfl rfl h63) rfl Try.call51 rfl (Ca_of0 fun w hh => c_impl_runner_halts _ w (fun _ hk => hk.elim) _ _ (hh.bx_pa 12 rfl (Grunner.rdmk (Rd.mk_int _ _ _) (Rd.mk_int _ _ _) (hh.rd0 9 rfl) (Rd.mk_int _ _ _) (hh.ow0 10 rfl) (hh.ow0 11 rfl)) rfl) _ hr67) (fun _ => ?_)
              refine JL_q (wants_none rfl) rfl (ex_pick_false rfl h63 rfl) ?_
              refine JL_nil ?_
              refine N_then ?_
              refine J_if rfl (fun h68 => ?_) (fun h68 => ?_)
              · refine J_seq ?_
                refine J_region ?_
                refine JL_q (wants_none rfl) rfl (ex_move rfl) ?_
                refine JL_q (wants_none rfl) rfl (ex_move rfl) ?_
                refine JL_bnd fun r69 hr70 => ?_
                refine JL_call (wants_none rfl) rfl Try.call51 rfl (Ca_of0 fun w hh => c_impl_runner_halts _ w (fun _ hk => hk.elim) _ _ (hh.bx_pa 12 rfl (Grunner.rdmk (Rd.mk_int _ _ _) (Rd.mk_int _ _ _) (hh.rd0 9 rfl) (Rd.mk_int _ _ _) (hh.ow0 10 rfl) (hh.ow0 11 rfl)) rfl) _ hr70) (fun _ => ?_)
                refine JL_q (wants_none rfl) rfl (ex_assign rfl) ?_
                refine JL_q (wants_none rfl) rfl (ex_assign rfl) ?_
                refine JL_q (wants_none rfl) rfl (ex_assign rfl) ?_
                refine JL_nil ?_
                refine N_then ?_
                refine J_ret ?_
                refine N_mid_ret ?_
                refine N_then_ret ?_
                refine N_block_ret ?_
                refine N_then_ret ?_
                refine N_round_reti ?_
                refine N_inl3 hK3 rfl (rv_tmp rfl) (rv_tmp rfl) (rv_tmp rfl) ?_
                refine JL_q (wants_none rfl) rfl (ex_move rfl) ?_
                refine JL_q (wants_none rfl) rfl (ex_extract rfl rfl) ?_
                refine JL_q (wants_none rfl) rfl (ex_extract rfl rfl) ?_
                refine JL_q (wants_none rfl) rfl (ex_extract rfl rfl) ?_
                refine JL_q (wants_none rfl) rfl (ex_assign rfl) ?_
                refine JL_q (wants_none rfl) rfl (ex_assign rfl) ?_
                refine JL_q (wants_none rfl) rfl (ex_assign rfl) ?_
                refine JL_nil ?_
                refine N_then ?_
                refine J_seq ?_
                refine J_region ?_
                refine JL_q (wants_none rfl) rfl (ex_move rfl) ?_
                refine JL_q (wants_none rfl) rfl (ex_move rfl) ?_
                refine JL_q (wants_none rfl) rfl (ex_move rfl) ?_
                refine JL_q (wants_none rfl) rfl (ex_assign rfl) ?_
                refine JL_q (wants_none rfl) rfl (ex_assign rfl) ?_
                refine JL_q (wants_none rfl) rfl (ex_assign rfl) ?_
                refine JL_nil ?_
                refine N_then ?_
                refine J_ret ?_
                exact N_ret3 rfl (rv_tmp rfl) (rv_tmp rfl) (rv_tmp rfl) (fun w hh => ⟨(v60, v56, (g10_2 ++ (((x52_0 : Value).ownBlock.toList ++ []) ++ (((x52_1 : Value).ownBlock.toList ++ []) ++ []))), b2), rfl, hh.sel [6, 7, 8] rfl⟩)
              · refine J_skip ?_
                exact N_meet' () ⟨rfl, rfl, rfl, rfl, rfl, trivial⟩ [6, 7, 8, 9, 10, 11, 12] rfl rfl
          · refine N_then ?_
            refine J_seq ?_
            refine J_region ?_
            refine JL_q (wants_none rfl) rfl (ex_move rfl) ?_
            refine JL_bnd fun r71 hr72 => ?_
            refine JL_call (wants_none rfl) rfl Try.call52 rfl (Ca_of0 fun w hh => c_impl_runner_rule _ w (fun _ hk => hk.elim) _ _ (hh.bx_pa 6 rfl (Grunner.rdmk (Rd.mk_int _ _ _) (Rd.mk_int _ _ _) (hh.rd0 3 rfl) (Rd.mk_int _ _ _) (hh.ow0 4 rfl) (hh.ow0 5 rfl)) rfl) _ hr72) (fun _ => ?_)
            refine JL_st (wants_none rfl) rfl (st_alloc zi_80 rfl) (fun b73 => ?_)
            refine JL_sk (wants_none rfl) (sk_store_bx' 0 ti_80 rfl rfl (fun w hh => (cv_aggs ⟨cv_int, cv_int, cv_int, trivial⟩)) rfl rfl rfl rfl) ?_
            refine JL_nil ?_
            refine N_then ?_
            refine J_seq ?_
            refine J_region ?_
            refine JL_q (wants_none rfl) rfl (ex_move rfl) ?_
            refine JL_q (wants_none rfl) rfl (ex_move rfl) ?_
            refine JL_q (wants_none rfl) rfl (ex_move rfl) ?_
            refine JL_q (wants_none rfl) rfl (ex_load_bx_agg 0 ti_80 rfl rfl rfl rfl) ?_
            refine JL_inlinem (wants_none rfl) rfl rfl rfl (me_63_104 _ _ _ _) Try.func104 rfl Try.ntmps104 rfl rfl (fun K_ hK74 => ?_)
            refine J_region ?_
            refine JL_st (wants_none rfl) rfl (st_box' rfl (fun w hh => (cv_aggs ⟨cv_int, cv_int, cv_int, trivial⟩))) (fun b75 => ?_)
            refine JL_nil ?_
            refine N_inl0 (.inr rfl) hK74 rfl ?_
            refine JL_nil ?_
            refine N_then ?_
            refine J_seq ?_
            refine J_seq ?_
            refine J_region ?_
            refine JL_q (wants_none rfl) rfl (ex_move rfl) ?_
            refine JL_bnd fun r76 hr77 => ?_
            refine JL_callT (wants_none rfl) rfl Try.call53 rfl (CaT_of [8, 6, 7] [0, 1, 2, 3, 4, 5] rfl rfl (fun _ => rfl) fun w hh => c_impl_runner_step w x8_3 (⟨r6.1, r6.2.1, r6.2.2.1, s9.2.2.2.2.1, s9.2.2.2.2.2.1, s9.2.2.2.2.2.2.1⟩ : Grunner) x8_0 g10_3 g10_4 _ rfl (hh.handed [8, 6, 7] rfl rfl rfl rfl) (hh.apart [8, 6, 7] rfl (hh.rd 5 rfl)) _ hr77) (fun x78 => ?_)
            obtain ⟨x78_0, x78_1⟩ := x78
            refine JL_q (wants_none rfl) rfl (ex_not rfl) ?_
            refine JL_nil ?_
            refine N_then ?_
            refine J_if rfl (fun h79 => ?_) (fun h79 => ?_)
            · refine J_seq ?_
              refine J_region ?_
              refine JL_q (wants_none rfl) rfl (ex_assign rfl) ?_
              refine JL_q (wants_none rfl) rfl (ex_assign rfl) ?_
              refine JL_q (wants_none rfl) rfl (ex_assign rfl) ?_
              refine JL_nil ?_
              refine N_then ?_
              refine J_ret ?_
              refine N_then_ret ?_
              refine N_block_ret ?_
              refine N_then_ret ?_
              refine N_round_reti ?_
              refine N_inl3 hK3 rfl (rv_tmp rfl) (rv_tmp rfl) (rv_tmp rfl) ?_
              refine JL_q (wants_none rfl) rfl (ex_move rfl) ?_
              refine JL_q (wants_none rfl) rfl (ex_extract rfl rfl) ?_
              refine JL_q (wants_none rfl) rfl (ex_extract rfl rfl) ?_
              refine JL_q (wants_none rfl) rfl (ex_extract rfl rfl) ?_
              refine JL_q (wants_none rfl) rfl (ex_assign rfl) ?_
              refine JL_q (wants_none rfl) rfl (ex_assign rfl) ?_
              refine JL_q (wants_none rfl) rfl (ex_assign rfl) ?_
              refine JL_nil ?_
              refine N_then ?_
              refine J_seq ?_
              refine J_region ?_
              refine JL_q (wants_none rfl) rfl (ex_move rfl) ?_
              refine JL_q (wants_none rfl) rfl (ex_move rfl) ?_
              refine JL_q (wants_none rfl) rfl (ex_move rfl) ?_
              refine JL_q (wants_none rfl) rfl (ex_assign rfl) ?_
              refine JL_q (wants_none rfl) rfl (ex_assign rfl) ?_
              refine JL_q (wants_none rfl) rfl (ex_assign rfl) ?_
              refine JL_nil ?_
              refine N_then ?_
              refine J_ret ?_
              exact N_ret3 rfl (rv_tmp rfl) (rv_tmp rfl) (rv_tmp rfl) (fun w hh => ⟨(v60, v56, (g10_2 ++ (((x52_0 : Value).ownBlock.toList ++ []) ++ (((x52_1 : Value).ownBlock.toList ++ []) ++ []))), b2), rfl, hh.sel [5, 6, 7] rfl⟩)
            · refine J_skip ?_
              refine N_then ?_
              refine J_region ?_
              refine JL_q (wants_none rfl) rfl (ex_move rfl) ?_
              refine JL_q (wants_none rfl) rfl (ex_fieldAddr fi_80_1 rfl rfl) ?_
              refine JL_q (wants_none rfl) rfl (ex_load_bx 4 ti_2 rfl rfl rfl) ?_
              refine JL_q (wants_none rfl) rfl (ex_add rfl rfl) ?_
              refine JL_q (wants_none rfl) rfl (ex_assign rfl) ?_
              refine JL_nil ?_
              refine N_block ?_
              refine N_then ?_
              refine J_region ?_
              refine JL_q (wants_none rfl) rfl (ex_move rfl) ?_
              refine JL_q (wants_none rfl) rfl (ex_add rfl rfl) ?_
              refine JL_q (wants_none rfl) rfl (ex_assign rfl) ?_
              refine JL_nil ?_
              exact N_next' (v60, v56, (g10_2 ++ (((x52_0 : Value).ownBlock.toList ++ []) ++ (((x52_1 : Value).ownBlock.toList ++ []) ++ []))), x78_0, x78_1) ⟨rfl, rfl, rfl, rfl, rfl, trivial⟩ [5, 6, 7, 8, 1, 2, 0] rfl rfl
        · refine JO_call rfl (wants_none rfl) rfl Try.call34 rfl (Ca_of0 fun w hh => c_impl_size_int64 _ w (fun _ hk => hk.elim) _ _ (hh.ow0 0 rfl) _ hr49) (fun _ => ?_)
          refine JD_bnd fun r80 hr81 => ?_
          refine JD_two (i := 5) (j := 13) (by kernel_rfl) ?_ ?_
          · refine JO_q rfl (wants_none rfl) rfl (ex_load_bx 2 ti_66 rfl rfl rfl) ?_
            refine JD_one (i := 13) (by kernel_rfl) ?_
            refine JO_call rfl (wants_none rfl) rfl Try.call44 rfl (Ca_self (fun _ => rfl) fun w hh => c_impl_runner_config _ w (fun _ hk => hk.elim) _ _ (hh.bx_pa 6 rfl (Grunner.rdmk (Rd.mk_int _ _ _) (Rd.mk_int _ _ _) (hh.rd0 3 rfl) (Rd.mk_int _ _ _) (hh.ow0 4 rfl) (hh.ow0 5 rfl)) rfl) _ hr81) (fun x82 => ?_)
            obtain ⟨x82_0, x82_1⟩ := x82
            refine JD_one (i := 14) (by kernel_rfl) ?_
            refine JO_q rfl (wants_none rfl) rfl (ex_buildN [(0, .int .i64 r48, [.int .i64 r48]), (1, .int .i64 1, [.int .i64 1]), (2, .agg #[.int .i64 r80.State, x82_0, x82_1], [.int .i64 r80.State, x82_0, x82_1])] si_72 rfl (.cons fi_72_0 rfl rfl rfl (.cons fi_72_1 rfl rfl rfl (.cons fi_72_2 rfl rfl rfl .nil))) (fun w hh => ⟨cv_int, cv_int, (cv_aggs ⟨cv_int, (hh.cv_ow 0 rfl), (hh.cv_ow 1 rfl), trivial⟩), trivial⟩)) ?_
            refine JD_one (i := 15) (by kernel_rfl) ?_
            refine JO_ctx (fun w hh => hh.tokf 0 rfl rfl) (tokf_owns (i := 0) rfl) ?_
            refine JO_ctx (fun w hh => hh.tokf 2 rfl rfl) (tokf_owns (i := 2) rfl) ?_
            refine JO_st rfl (wants_none rfl) rfl (st_buildSlice_od (vs := [.agg #[.int .i64 r48, .int .i64 1, .int .i64 r80.State, x82_0, x82_1]]) (B := (((x82_0 : Value).ownBlock.toList ++ []) ++ (((x82_1 : Value).ownBlock.toList ++ []) ++ []))) ([(⟨r48, 1, r80.State, r80.Left, r80.Right⟩ : Grecord)] : List Grecord) [1, 0] Try.underlying66 ti_72 zi_72 rfl rfl rfl rfl rfl (fun w hh => (dwv_cons (Grecord.dw (hh.dw 1 rfl) (hh.dw 0 rfl)) dwv_nil))) (fun _ hk => nomatch hk) (fun b83 => ?_)
            refine JD_bnd fun z84 hz85 => ?_
            refine JD_one (i := 16) (by kernel_rfl) ?_
            refine JO_st rfl (wants_none rfl) rfl (st_append_od 6 0 Try.underlying66 ti_72 zi_72 rfl bi_72 rfl rfl rfl rfl rfl rfl hz85) (sub_od 0 rfl) (fun v86 => ?_)
            refine JD_take (i := 17) hp13 rfl (by kernel_rfl) (by kernel_rfl) (by kernel_rfl) (wants_none rfl) rfl (ex_nilCheck rfl) ?_
            refine JD_take (i := 18) hp13 rfl (by kernel_rfl) (by kernel_rfl) (by kernel_rfl) (wants_none rfl) rfl (ex_fieldAddr fi_70_0 rfl rfl) ?_
            refine JD_take (i := 19) hp13 rfl (by kernel_rfl) (by kernel_rfl) (by kernel_rfl) (wants_none rfl) rfl (ex_fieldAddr fi_68_1 rfl rfl) ?_
            refine JD_one (i := 20) (by kernel_rfl) ?_
            refine JO_sk rfl (wants_none rfl) (sk_store_bx' 7 ti_66 rfl rfl (fun w hh => (hh.cv_od 6 rfl)) rfl rfl rfl rfl) (sub_bx 1 rfl) ?_
            refine JD_done (by kernel_rfl) ?_
            refine N_block ?_
            refine N_then ?_
            refine J_region ?_
            refine JL_q (wants_none rfl) rfl (ex_move rfl) ?_
            refine JL_q (wants_none rfl) rfl (ex_move rfl) ?_
            refine JL_q (wants_none rfl) rfl (ex_nilCheck rfl) ?_
            refine JL_q (wants_none rfl) rfl (ex_fieldAddr fi_70_0 rfl rfl) ?_
            refine JL_q (wants_none rfl) rfl (ex_fieldAddr fi_68_0 rfl rfl) ?_
            refine JL_q (wants_none rfl) rfl (ex_load_bx 7 ti_33 rfl rfl rfl) ?_
            refine JL_q (wants_none rfl) rfl (ex_move rfl) ?_
            refine JL_st (wants_none rfl) rfl (st_buildSlice (vs := [.int .i64 s9.2.2.2.2.2.2.2.1]) ([s9.2.2.2.2.2.2.2.1] : List Int) Try.underlying33 ti_2 zi_2 rfl rfl rfl (fun w hh => ⟨(Rd.mk_int _ _ _), trivial⟩)) (fun b87 => ?_)
            refine JL_bnd fun z88 hz89 => ?_
            refine JL_st (wants_none rfl) rfl (st_append 6 Try.underlying33 ti_2 zi_2 rfl bi_2 rfl rfl rfl rfl (fun w hh => hh.src_ow 0 rfl) hz89) (fun v90 => ?_)
            refine JL_q (wants_none rfl) rfl (ex_nilCheck rfl) ?_
            refine JL_q (wants_none rfl) rfl (ex_fieldAddr fi_70_0 rfl rfl) ?_
            refine JL_q (wants_none rfl) rfl (ex_fieldAddr fi_68_0 rfl rfl) ?_
            refine JL_sk (wants_none rfl) (sk_store_bx' 8 ti_33 rfl rfl (fun w hh => (hh.cv_ow 6 rfl)) rfl rfl rfl rfl) ?_
            refine JL_nil ?_
            refine N_inl0 (.inr rfl) hK11 rfl ?_
            refine JL_nil ?_
            refine N_then ?_
            refine J_seq ?_
            refine J_cut' (S' := Unit) (G' := Unit) (fun _ _ => [(2, .int .i64 p1), (3, .iface 63 (.pointer (some ⟨b2, 0, none⟩))), (11, .pointer (some ⟨x8_3, 0, none⟩)), (12, .int .i64 s9.2.2.2.2.2.2.2.1), (13, .int .i64 s9.2.2.2.2.2.2.2.2)]) (fun _ _ => [.ow 2 v90 z88, .od 72 v86 z84 (g10_2 ++ (((x82_0 : Value).ownBlock.toList ++ []) ++ (((x82_1 : Value).ownBlock.toList ++ []) ++ []))), .bx b2 70 [v90, v86, .int .i64 s9.2.2.1, .int .i64 s9.2.2.2.2.2.2.2.1], .rd x8_0 r6.2.2.1, .ow 2 g10_3 s9.2.2.2.2.2.1, .ow 2 g10_4 s9.2.2.2.2.2.2.1, .bx x8_3 112 [.int .i64 r6.1, .int .i64 r6.2.1, x8_0, .int .i64 s9.2.2.2.2.1, g10_3, g10_4]]) ?_ (fun s91 g92 => ?_)
            · refine J_seq ?_
              refine J_region ?_
              refine JL_q (wants_none rfl) rfl (ex_move rfl) ?_
              refine JL_q (wants_none rfl) rfl (ex_move rfl) ?_
              refine JL_q (wants_none rfl) rfl (ex_eql rfl rfl) ?_
              refine JL_q (wants_none rfl) rfl (ex_move rfl) ?_
              refine JL_cond (fun h93 => ?_) (fun h93 => ?_)
              · refine JL_passed rfl rfl rfl h93 ?_
                refine JL_passed rfl rfl rfl h93 ?_
                refine JL_q (wants_none rfl) rfl (ex_pick_true rfl h93 rfl) ?_
                refine JL_nil ?_
                refine N_then ?_
                refine J_if_true rfl rfl ?_
                refine J_seq ?_
                refine J_region ?_
                refine JL_q (wants_none rfl) rfl (ex_move rfl) ?_
                refine JL_q (wants_none rfl) rfl (ex_move rfl) ?_
                refine JL_bnd fun r94 hr95 => ?_
                refine JL_call (wants_none rfl) rfl Try.call51 rfl (Ca_of0 fun w hh => c_impl_runner_halts _ w (fun _ hk => hk.elim) _ _ (hh.bx_pa 12 rfl (Grunner.rdmk (Rd.mk_int _ _ _) (Rd.mk_int _ _ _) (hh.rd0 9 rfl) (Rd.mk_int _ _ _) (hh.ow0 10 rfl) (hh.ow0 11 rfl)) rfl) _ hr95) (fun _ => ?_)
                refine JL_q (wants_none rfl) rfl (ex_assign rfl) ?_
                refine JL_q (wants_none rfl) rfl (ex_assign rfl) ?_
                refine JL_q (wants_none rfl) rfl (ex_assign rfl) ?_
                refine JL_nil ?_
                refine N_then ?_
                refine J_ret ?_
                refine N_mid_ret ?_
                refine N_then_ret ?_
                refine N_block_ret ?_
                refine N_then_ret ?_
                refine N_round_reti ?_
                refine N_inl3 hK3 rfl (rv_tmp rfl) (rv_tmp rfl) (rv_tmp rfl) ?_
                refine JL_q (wants_none rfl) rfl (ex_move rfl) ?_
                refine JL_q (wants_none rfl) rfl (ex_extract rfl rfl) ?_
                refine JL_q (wants_none rfl) rfl (ex_extract rfl rfl) ?_
                refine JL_q (wants_none rfl) rfl (ex_extract rfl rfl) ?_
                refine JL_q (wants_none rfl) rfl (ex_assign rfl) ?_
                refine JL_q (wants_none rfl) rfl (ex_assign rfl) ?_
                refine JL_q (wants_none rfl) rfl (ex_assign rfl) ?_
                refine JL_nil ?_
                refine N_then ?_
                refine J_seq ?_
                refine J_region ?_
                refine JL_q (wants_none rfl) rfl (ex_move rfl) ?_
                refine JL_q (wants_none rfl) rfl (ex_move rfl) ?_
                refine JL_q (wants_none rfl) rfl (ex_move rfl) ?_
                refine JL_q (wants_none rfl) rfl (ex_assign rfl) ?_
                refine JL_q (wants_none rfl) rfl (ex_assign rfl) ?_
                refine JL_q (wants_none rfl) rfl (ex_assign rfl) ?_
                refine JL_nil ?_
                refine N_then ?_
                refine J_ret ?_
                exact N_ret3 rfl (rv_tmp rfl) (rv_tmp rfl) (rv_tmp rfl) (fun w hh => ⟨(v90, v86, (g10_2 ++ (((x82_0 : Value).ownBlock.toList ++ []) ++ (((x82_1 : Value).ownBlock.toList ++ []) ++ []))), b2), rfl, hh.sel [6, 7, 8] rfl⟩)
              · refine JL_q (wants_some rfl rfl rfl h93) rfl (ex_move rfl) ?_
                refine JL_bnd fun r96 hr97 => ?_
                refine JL_call (wants_some rfl rfl rfl h93) rfl Try.call51 rfl (Ca_of0 fun w hh => c_impl_runner_halts _ w (fun _ hk => hk.elim) _ _ (hh.bx_pa 12 rfl (Grunner.rdmk (Rd.mk_int _ _ _) (Rd.mk_int _ _ _) (hh.rd0 9 rfl) (Rd.mk_int _ _ _) (hh.ow0 10 rfl) (hh.ow0 11 rfl)) rfl) _ hr97) (fun _ => ?_)
                refine JL_q (wants_none rfl) rfl (ex_pick_false rfl h93 rfl) ?_
                refine JL_nil ?_
                refine N_then ?_
                refine J_if rfl (fun h98 => ?_) (fun h98 => ?_)
                · refine J_seq ?_
                  refine J_region ?_
                  refine JL_q (wants_none rfl) rfl (ex_move rfl) ?_
                  refine JL_q (wants_none rfl) rfl (ex_move rfl) ?_
                  refine JL_bnd fun r99 hr100 => ?_
                  refine JL_call (wants_none rfl) rfl Try.call51 rfl (Ca_of0 fun w hh => c_impl_runner_halts _ w (fun _ hk => hk.elim) _ _ (hh.bx_pa 12 rfl (Grunner.rdmk (Rd.mk_int _ _ _) (Rd.mk_int _ _ _) (hh.rd0 9 rfl) (Rd.mk_int _ _ _) (hh.ow0 10 rfl) (hh.ow0 11 rfl)) rfl) _ hr100) (fun _ => ?_)
                  refine JL_q (wants_none rfl) rfl (ex_assign rfl) ?_
                  refine JL_q (wants_none rfl) rfl (ex_assign rfl) ?_
                  refine JL_q (wants_none rfl) rfl (ex_assign rfl) ?_
                  refine JL_nil ?_
                  refine N_then ?_
                  refine J_ret ?_
                  refine N_mid_ret ?_
                  refine N_then_ret ?_
                  refine N_block_ret ?_
                  refine N_then_ret ?_
                  refine N_round_reti ?_
                  refine N_inl3 hK3 rfl (rv_tmp rfl) (rv_tmp rfl) (rv_tmp rfl) ?_
                  refine JL_q (wants_none rfl) rfl (ex_move rfl) ?_
                  refine JL_q (wants_none rfl) rfl (ex_extract rfl rfl) ?_
                  refine JL_q (wants_none rfl) rfl (ex_extract rfl rfl) ?_
                  refine JL_q (wants_none rfl) rfl (ex_extract rfl rfl) ?_
                  refine JL_q (wants_none rfl) rfl (ex_assign rfl) ?_
                  refine JL_q (wants_none rfl) rfl (ex_assign rfl) ?_
                  refine JL_q (wants_none rfl) rfl (ex_assign rfl) ?_
                  refine JL_nil ?_
                  refine N_then ?_
                  refine J_seq ?_
                  refine J_region ?_
                  refine JL_q (wants_none rfl) rfl (ex_move rfl) ?_
                  refine JL_q (wants_none rfl) rfl (ex_move rfl) ?_
                  refine JL_q (wants_none rfl) rfl (ex_move rfl) ?_
                  refine JL_q (wants_none rfl) rfl (ex_assign rfl) ?_
                  refine JL_q (wants_none rfl) rfl (ex_assign rfl) ?_
                  refine JL_q (wants_none rfl) rfl (ex_assign rfl) ?_
                  refine JL_nil ?_
                  refine N_then ?_
                  refine J_ret ?_
                  exact N_ret3 rfl (rv_tmp rfl) (rv_tmp rfl) (rv_tmp rfl) (fun w hh => ⟨(v90, v86, (g10_2 ++ (((x82_0 : Value).ownBlock.toList ++ []) ++ (((x82_1 : Value).ownBlock.toList ++ []) ++ []))), b2), rfl, hh.sel [6, 7, 8] rfl⟩)
                · refine J_skip ?_
                  exact N_meet' () ⟨rfl, rfl, rfl, rfl, rfl, trivial⟩ [6, 7, 8, 9, 10, 11, 12] rfl rfl
            · refine N_then ?_
              refine J_seq ?_
              refine J_region ?_
              refine JL_q (wants_none rfl) rfl (ex_move rfl) ?_
              refine JL_bnd fun r101 hr102 => ?_
              refine JL_call (wants_none rfl) rfl Try.call52 rfl (Ca_of0 fun w hh => c_impl_runner_rule _ w (fun _ hk => hk.elim) _ _ (hh.bx_pa 6 rfl (Grunner.rdmk (Rd.mk_int _ _ _) (Rd.mk_int _ _ _) (hh.rd0 3 rfl) (Rd.mk_int _ _ _) (hh.ow0 4 rfl) (hh.ow0 5 rfl)) rfl) _ hr102) (fun _ => ?_)
              refine JL_st (wants_none rfl) rfl (st_alloc zi_80 rfl) (fun b103 => ?_)
              refine JL_sk (wants_none rfl) (sk_store_bx' 0 ti_80 rfl rfl (fun w hh => (cv_aggs ⟨cv_int, cv_int, cv_int, trivial⟩)) rfl rfl rfl rfl) ?_
              refine JL_nil ?_
              refine N_then ?_
              refine J_seq ?_
              refine J_region ?_
              refine JL_q (wants_none rfl) rfl (ex_move rfl) ?_
              refine JL_q (wants_none rfl) rfl (ex_move rfl) ?_
              refine JL_q (wants_none rfl) rfl (ex_move rfl) ?_
              refine JL_q (wants_none rfl) rfl (ex_load_bx_agg 0 ti_80 rfl rfl rfl rfl) ?_
              refine JL_inlinem (wants_none rfl) rfl rfl rfl (me_63_104 _ _ _ _) Try.func104 rfl Try.ntmps104 rfl rfl (fun K_ hK104 => ?_)
              refine J_region ?_
              refine JL_st (wants_none rfl) rfl (st_box' rfl (fun w hh => (cv_aggs ⟨cv_int, cv_int, cv_int, trivial⟩))) (fun b105 => ?_)
              refine JL_nil ?_
              refine N_inl0 (.inr rfl) hK104 rfl ?_
              refine JL_nil ?_
              refine N_then ?_
              refine J_seq ?_
              refine J_seq ?_
              refine J_region ?_
              refine JL_q (wants_none rfl) rfl (ex_move rfl) ?_
              refine JL_bnd fun r106 hr107 => ?_
              refine JL_callT (wants_none rfl) rfl Try.call53 rfl (CaT_of [8, 6, 7] [0, 1, 2, 3, 4, 5] rfl rfl (fun _ => rfl) fun w hh => c_impl_runner_step w x8_3 (⟨r6.1, r6.2.1, r6.2.2.1, s9.2.2.2.2.1, s9.2.2.2.2.2.1, s9.2.2.2.2.2.2.1⟩ : Grunner) x8_0 g10_3 g10_4 _ rfl (hh.handed [8, 6, 7] rfl rfl rfl rfl) (hh.apart [8, 6, 7] rfl (hh.rd 5 rfl)) _ hr107) (fun x108 => ?_)
              obtain ⟨x108_0, x108_1⟩ := x108
              refine JL_q (wants_none rfl) rfl (ex_not rfl) ?_
              refine JL_nil ?_
              refine N_then ?_
              refine J_if rfl (fun h109 => ?_) (fun h109 => ?_)
              · refine J_seq ?_
                refine J_region ?_
                refine JL_q (wants_none rfl) rfl (ex_assign rfl) ?_
                refine JL_q (wants_none rfl) rfl (ex_assign rfl) ?_
                refine JL_q (wants_none rfl) rfl (ex_assign rfl) ?_
                refine JL_nil ?_
                refine N_then ?_
                refine J_ret ?_
                refine N_then_ret ?_
                refine N_block_ret ?_
                refine N_then_ret ?_
                refine N_round_reti ?_
                refine N_inl3 hK3 rfl (rv_tmp rfl) (rv_tmp rfl) (rv_tmp rfl) ?_
                refine JL_q (wants_none rfl) rfl (ex_move rfl) ?_
                refine JL_q (wants_none rfl) rfl (ex_extract rfl rfl) ?_
                refine JL_q (wants_none rfl) rfl (ex_extract rfl rfl) ?_
                refine JL_q (wants_none rfl) rfl (ex_extract rfl rfl) ?_
                refine JL_q (wants_none rfl) rfl (ex_assign rfl) ?_
                refine JL_q (wants_none rfl) rfl (ex_assign rfl) ?_
                refine JL_q (wants_none rfl) rfl (ex_assign rfl) ?_
                refine JL_nil ?_
                refine N_then ?_
                refine J_seq ?_
                refine J_region ?_
                refine JL_q (wants_none rfl) rfl (ex_move rfl) ?_
                refine JL_q (wants_none rfl) rfl (ex_move rfl) ?_
                refine JL_q (wants_none rfl) rfl (ex_move rfl) ?_
                refine JL_q (wants_none rfl) rfl (ex_assign rfl) ?_
                refine JL_q (wants_none rfl) rfl (ex_assign rfl) ?_
                refine JL_q (wants_none rfl) rfl (ex_assign rfl) ?_
                refine JL_nil ?_
                refine N_then ?_
                refine J_ret ?_
                exact N_ret3 rfl (rv_tmp rfl) (rv_tmp rfl) (rv_tmp rfl) (fun w hh => ⟨(v90, v86, (g10_2 ++ (((x82_0 : Value).ownBlock.toList ++ []) ++ (((x82_1 : Value).ownBlock.toList ++ []) ++ []))), b2), rfl, hh.sel [5, 6, 7] rfl⟩)
              · refine J_skip ?_
                refine N_then ?_
                refine J_region ?_
                refine JL_q (wants_none rfl) rfl (ex_move rfl) ?_
                refine JL_q (wants_none rfl) rfl (ex_fieldAddr fi_80_1 rfl rfl) ?_
                refine JL_q (wants_none rfl) rfl (ex_load_bx 4 ti_2 rfl rfl rfl) ?_
                refine JL_q (wants_none rfl) rfl (ex_add rfl rfl) ?_
                refine JL_q (wants_none rfl) rfl (ex_assign rfl) ?_
                refine JL_nil ?_
                refine N_block ?_
                refine N_then ?_
                refine J_region ?_
                refine JL_q (wants_none rfl) rfl (ex_move rfl) ?_
                refine JL_q (wants_none rfl) rfl (ex_add rfl rfl) ?_
                refine JL_q (wants_none rfl) rfl (ex_assign rfl) ?_
                refine JL_nil ?_
                exact N_next' (v90, v86, (g10_2 ++ (((x82_0 : Value).ownBlock.toList ++ []) ++ (((x82_1 : Value).ownBlock.toList ++ []) ++ []))), x108_0, x108_1) ⟨rfl, rfl, rfl, rfl, rfl, trivial⟩ [5, 6, 7, 8, 1, 2, 0] rfl rfl
          · refine JO_call rfl (wants_none rfl) rfl Try.call44 rfl (Ca_self (fun _ => rfl) fun w hh => c_impl_runner_config _ w (fun _ hk => hk.elim) _ _ (hh.bx_pa 6 rfl (Grunner.rdmk (Rd.mk_int _ _ _) (Rd.mk_int _ _ _) (hh.rd0 3 rfl) (Rd.mk_int _ _ _) (hh.ow0 4 rfl) (hh.ow0 5 rfl)) rfl) _ hr81) (fun x110 => ?_)
            obtain ⟨x110_0, x110_1⟩ := x110
            refine JD_two (i := 5) (j := 14) (by kernel_rfl) ?_ ?_
            · refine JO_q rfl (wants_none rfl) rfl (ex_load_bx 4 ti_66 rfl rfl rfl) ?_
              refine JD_one (i := 14) (by kernel_rfl) ?_
              refine JO_q rfl (wants_none rfl) rfl (ex_buildN [(0, .int .i64 r48, [.int .i64 r48]), (1, .int .i64 1, [.int .i64 1]), (2, .agg #[.int .i64 r80.State, x110_0, x110_1], [.int .i64 r80.State, x110_0, x110_1])] si_72 rfl (.cons fi_72_0 rfl rfl rfl (.cons fi_72_1 rfl rfl rfl (.cons fi_72_2 rfl rfl rfl .nil))) (fun w hh => ⟨cv_int, cv_int, (cv_aggs ⟨cv_int, (hh.cv_ow 0 rfl), (hh.cv_ow 1 rfl), trivial⟩), trivial⟩)) ?_
              refine JD_one (i := 15) (by kernel_rfl) ?_
              refine JO_ctx (fun w hh => hh.tokf 0 rfl rfl) (tokf_owns (i := 0) rfl) ?_
              refine JO_ctx (fun w hh => hh.tokf 2 rfl rfl) (tokf_owns (i := 2) rfl) ?_
              refine JO_st rfl (wants_none rfl) rfl (st_buildSlice_od (vs := [.agg #[.int .i64 r48, .int .i64 1, .int .i64 r80.State, x110_0, x110_1]]) (B := (((x110_0 : Value).ownBlock.toList ++ []) ++ (((x110_1 : Value).ownBlock.toList ++ []) ++ []))) ([(⟨r48, 1, r80.State, r80.Left, r80.Right⟩ : Grecord)] : List Grecord) [1, 0] Try.underlying66 ti_72 zi_72 rfl rfl rfl rfl rfl (fun w hh => (dwv_cons (Grecord.dw (hh.dw 1 rfl) (hh.dw 0 rfl)) dwv_nil))) (fun _ hk => nomatch hk) (fun b111 => ?_)
              refine JD_bnd fun z112 hz113 => ?_
              refine JD_one (i := 16) (by kernel_rfl) ?_
              refine JO_st rfl (wants_none rfl) rfl (st_append_od 6 0 Try.underlying66 ti_72 zi_72 rfl bi_72 rfl rfl rfl rfl rfl rfl hz113) (sub_od 0 rfl) (fun v114 => ?_)
              refine JD_take (i := 17) hp13 rfl (by kernel_rfl) (by kernel_rfl) (by kernel_rfl) (wants_none rfl) rfl (ex_nilCheck rfl) ?_
              refine JD_take (i := 18) hp13 rfl (by kernel_rfl) (by kernel_rfl) (by kernel_rfl) (wants_none rfl) rfl (ex_fieldAddr fi_70_0 rfl rfl) ?_
              refine JD_take (i := 19) hp13 rfl (by kernel_rfl) (by kernel_rfl) (by kernel_rfl) (wants_none rfl) rfl (ex_fieldAddr fi_68_1 rfl rfl) ?_
              refine JD_one (i := 20) (by kernel_rfl) ?_
              refine JO_sk rfl (wants_none rfl) (sk_store_bx' 7 ti_66 rfl rfl (fun w hh => (hh.cv_od 6 rfl)) rfl rfl rfl rfl) (sub_bx 1 rfl) ?_
              refine JD_done (by kernel_rfl) ?_
              refine N_block ?_
              refine N_then ?_
              refine J_region ?_
              refine JL_q (wants_none rfl) rfl (ex_move rfl) ?_
              refine JL_q (wants_none rfl) rfl (ex_move rfl) ?_
              refine JL_q (wants_none rfl) rfl (ex_nilCheck rfl) ?_
              refine JL_q (wants_none rfl) rfl (ex_fieldAddr fi_70_0 rfl rfl) ?_
              refine JL_q (wants_none rfl) rfl (ex_fieldAddr fi_68_0 rfl rfl) ?_
              refine JL_q (wants_none rfl) rfl (ex_load_bx 7 ti_33 rfl rfl rfl) ?_
              refine JL_q (wants_none rfl) rfl (ex_move rfl) ?_
              refine JL_st (wants_none rfl) rfl (st_buildSlice (vs := [.int .i64 s9.2.2.2.2.2.2.2.1]) ([s9.2.2.2.2.2.2.2.1] : List Int) Try.underlying33 ti_2 zi_2 rfl rfl rfl (fun w hh => ⟨(Rd.mk_int _ _ _), trivial⟩)) (fun b115 => ?_)
              refine JL_bnd fun z116 hz117 => ?_
              refine JL_st (wants_none rfl) rfl (st_append 6 Try.underlying33 ti_2 zi_2 rfl bi_2 rfl rfl rfl rfl (fun w hh => hh.src_ow 0 rfl) hz117) (fun v118 => ?_)
              refine JL_q (wants_none rfl) rfl (ex_nilCheck rfl) ?_
              refine JL_q (wants_none rfl) rfl (ex_fieldAddr fi_70_0 rfl rfl) ?_
              refine JL_q (wants_none rfl) rfl (ex_fieldAddr fi_68_0 rfl rfl) ?_
              refine JL_sk (wants_none rfl) (sk_store_bx' 8 ti_33 rfl rfl (fun w hh => (hh.cv_ow 6 rfl)) rfl rfl rfl rfl) ?_
              refine JL_nil ?_
              refine N_inl0 (.inr rfl) hK11 rfl ?_
              refine JL_nil ?_
              refine N_then ?_
              refine J_seq ?_
              refine J_cut' (S' := Unit) (G' := Unit) (fun _ _ => [(2, .int .i64 p1), (3, .iface 63 (.pointer (some ⟨b2, 0, none⟩))), (11, .pointer (some ⟨x8_3, 0, none⟩)), (12, .int .i64 s9.2.2.2.2.2.2.2.1), (13, .int .i64 s9.2.2.2.2.2.2.2.2)]) (fun _ _ => [.ow 2 v118 z116, .od 72 v114 z112 (g10_2 ++ (((x110_0 : Value).ownBlock.toList ++ []) ++ (((x110_1 : Value).ownBlock.toList ++ []) ++ []))), .bx b2 70 [v118, v114, .int .i64 s9.2.2.1, .int .i64 s9.2.2.2.2.2.2.2.1], .rd x8_0 r6.2.2.1, .ow 2 g10_3 s9.2.2.2.2.2.1, .ow 2 g10_4 s9.2.2.2.2.2.2.1, .bx x8_3 112 [.int .i64 r6.1, .int .i64 r6.2.1, x8_0, .int .i64 s9.2.2.2.2.1, g10_3, g10_4]]) ?_ (fun s119 g120 => ?_)
              · refine J_seq ?_
                refine J_region ?_
                refine JL_q (wants_none rfl) rfl (ex_move rfl) ?_
                refine JL_q (wants_none rfl) rfl (ex_move rfl) ?_
                refine JL_q (wants_none rfl) rfl (ex_eql rfl rfl) ?_
                refine JL_q (wants_none rfl) rfl (ex_move rfl) ?_
                refine JL_cond (fun h121 => ?_) (fun h121 => ?_)
                · refine JL_passed rfl rfl rfl h121 ?_
                  refine JL_passed rfl rfl rfl h121 ?_
                  refine JL_q (wants_none rfl) rfl (ex_pick_true rfl h121 rfl) ?_
                  refine JL_nil ?_
                  refine N_then ?_
                  refine J_if_true rfl rfl ?_
                  refine J_seq ?_
                  refine J_region ?_
                  refine JL_q (wants_none rfl) rfl (ex_move rfl) ?_
                  refine JL_q (wants_none rfl) rfl (ex_move rfl) ?_
                  refine JL_bnd fun r122 hr123 => ?_
                  refine JL_call (wants_none rfl) rfl Try.call51 rfl (Ca_of0 fun w hh => c_impl_runner_halts _ w (fun _ hk => hk.elim) _ _ (hh.bx_pa 12 rfl (Grunner.rdmk (Rd.mk_int _ _ _) (Rd.mk_int _ _ _) (hh.rd0 9 rfl) (Rd.mk_int _ _ _) (hh.ow0 10 rfl) (hh.ow0 11 rfl)) rfl) _ hr123) (fun _ => ?_)
                  refine JL_q (wants_none rfl) rfl (ex_assign rfl) ?_
                  refine JL_q (wants_none rfl) rfl (ex_assign rfl) ?_
                  refine JL_q (wants_none rfl) rfl (ex_assign rfl) ?_
                  refine JL_nil ?_
                  refine N_then ?_
                  refine J_ret ?_
                  refine N_mid_ret ?_
                  refine N_then_ret ?_
                  refine N_block_ret ?_
                  refine N_then_ret ?_
                  refine N_round_reti ?_
                  refine N_inl3 hK3 rfl (rv_tmp rfl) (rv_tmp rfl) (rv_tmp rfl) ?_
                  refine JL_q (wants_none rfl) rfl (ex_move rfl) ?_
                  refine JL_q (wants_none rfl) rfl (ex_extract rfl rfl) ?_
                  refine JL_q (wants_none rfl) rfl (ex_extract rfl rfl) ?_
                  refine JL_q (wants_none rfl) rfl (ex_extract rfl rfl) ?_
                  refine JL_q (wants_none rfl) rfl (ex_assign rfl) ?_
                  refine JL_q (wants_none rfl) rfl (ex_assign rfl) ?_
                  refine JL_q (wants_none rfl) rfl (ex_assign rfl) ?_
                  refine JL_nil ?_
                  refine N_then ?_
                  refine J_seq ?_
                  refine J_region ?_
                  refine JL_q (wants_none rfl) rfl (ex_move rfl) ?_
                  refine JL_q (wants_none rfl) rfl (ex_move rfl) ?_
                  refine JL_q (wants_none rfl) rfl (ex_move rfl) ?_
                  refine JL_q (wants_none rfl) rfl (ex_assign rfl) ?_
                  refine JL_q (wants_none rfl) rfl (ex_assign rfl) ?_
                  refine JL_q (wants_none rfl) rfl (ex_assign rfl) ?_
                  refine JL_nil ?_
                  refine N_then ?_
                  refine J_ret ?_
                  exact N_ret3 rfl (rv_tmp rfl) (rv_tmp rfl) (rv_tmp rfl) (fun w hh => ⟨(v118, v114, (g10_2 ++ (((x110_0 : Value).ownBlock.toList ++ []) ++ (((x110_1 : Value).ownBlock.toList ++ []) ++ []))), b2), rfl, hh.sel [6, 7, 8] rfl⟩)
                · refine JL_q (wants_some rfl rfl rfl h121) rfl (ex_move rfl) ?_
                  refine JL_bnd fun r124 hr125 => ?_
                  refine JL_call (wants_some rfl rfl rfl h121) rfl Try.call51 rfl (Ca_of0 fun w hh => c_impl_runner_halts _ w (fun _ hk => hk.elim) _ _ (hh.bx_pa 12 rfl (Grunner.rdmk (Rd.mk_int _ _ _) (Rd.mk_int _ _ _) (hh.rd0 9 rfl) (Rd.mk_int _ _ _) (hh.ow0 10 rfl) (hh.ow0 11 rfl)) rfl) _ hr125) (fun _ => ?_)
                  refine JL_q (wants_none rfl) rfl (ex_pick_false rfl h121 rfl) ?_
                  refine JL_nil ?_
                  refine N_then ?_
                  refine J_if rfl (fun h126 => ?_) (fun h126 => ?_)
                  · refine J_seq ?_
                    refine J_region ?_
                    refine JL_q (wants_none rfl) rfl (ex_move rfl) ?_
                    refine JL_q (wants_none rfl) rfl (ex_move rfl) ?_
                    refine JL_bnd fun r127 hr128 => ?_
                    refine JL_call (wants_none rfl) rfl Try.call51 rfl (Ca_of0 fun w hh => c_impl_runner_halts _ w (fun _ hk => hk.elim) _ _ (hh.bx_pa 12 rfl (Grunner.rdmk (Rd.mk_int _ _ _) (Rd.mk_int _ _ _) (hh.rd0 9 rfl) (Rd.mk_int _ _ _) (hh.ow0 10 rfl) (hh.ow0 11 rfl)) rfl) _ hr128) (fun _ => ?_)
                    refine JL_q (wants_none rfl) rfl (ex_assign rfl) ?_
                    refine JL_q (wants_none rfl) rfl (ex_assign rfl) ?_
                    refine JL_q (wants_none rfl) rfl (ex_assign rfl) ?_
                    refine JL_nil ?_
                    refine N_then ?_
                    refine J_ret ?_
                    refine N_mid_ret ?_
                    refine N_then_ret ?_
                    refine N_block_ret ?_
                    refine N_then_ret ?_
                    refine N_round_reti ?_
                    refine N_inl3 hK3 rfl (rv_tmp rfl) (rv_tmp rfl) (rv_tmp rfl) ?_
                    refine JL_q (wants_none rfl) rfl (ex_move rfl) ?_
                    refine JL_q (wants_none rfl) rfl (ex_extract rfl rfl) ?_
                    refine JL_q (wants_none rfl) rfl (ex_extract rfl rfl) ?_
                    refine JL_q (wants_none rfl) rfl (ex_extract rfl rfl) ?_
                    refine JL_q (wants_none rfl) rfl (ex_assign rfl) ?_
                    refine JL_q (wants_none rfl) rfl (ex_assign rfl) ?_
                    refine JL_q (wants_none rfl) rfl (ex_assign rfl) ?_
                    refine JL_nil ?_
                    refine N_then ?_
                    refine J_seq ?_
                    refine J_region ?_
                    refine JL_q (wants_none rfl) rfl (ex_move rfl) ?_
                    refine JL_q (wants_none rfl) rfl (ex_move rfl) ?_
                    refine JL_q (wants_none rfl) rfl (ex_move rfl) ?_
                    refine JL_q (wants_none rfl) rfl (ex_assign rfl) ?_
                    refine JL_q (wants_none rfl) rfl (ex_assign rfl) ?_
                    refine JL_q (wants_none rfl) rfl (ex_assign rfl) ?_
                    refine JL_nil ?_
                    refine N_then ?_
                    refine J_ret ?_
                    exact N_ret3 rfl (rv_tmp rfl) (rv_tmp rfl) (rv_tmp rfl) (fun w hh => ⟨(v118, v114, (g10_2 ++ (((x110_0 : Value).ownBlock.toList ++ []) ++ (((x110_1 : Value).ownBlock.toList ++ []) ++ []))), b2), rfl, hh.sel [6, 7, 8] rfl⟩)
                  · refine J_skip ?_
                    exact N_meet' () ⟨rfl, rfl, rfl, rfl, rfl, trivial⟩ [6, 7, 8, 9, 10, 11, 12] rfl rfl
              · refine N_then ?_
                refine J_seq ?_
                refine J_region ?_
                refine JL_q (wants_none rfl) rfl (ex_move rfl) ?_
                refine JL_bnd fun r129 hr130 => ?_
                refine JL_call (wants_none rfl) rfl Try.call52 rfl (Ca_of0 fun w hh => c_impl_runner_rule _ w (fun _ hk => hk.elim) _ _ (hh.bx_pa 6 rfl (Grunner.rdmk (Rd.mk_int _ _ _) (Rd.mk_int _ _ _) (hh.rd0 3 rfl) (Rd.mk_int _ _ _) (hh.ow0 4 rfl) (hh.ow0 5 rfl)) rfl) _ hr130) (fun _ => ?_)
                refine JL_st (wants_none rfl) rfl (st_alloc zi_80 rfl) (fun b131 => ?_)
                refine JL_sk (wants_none rfl) (sk_store_bx' 0 ti_80 rfl rfl (fun w hh => (cv_aggs ⟨cv_int, cv_int, cv_int, trivial⟩)) rfl rfl rfl rfl) ?_
                refine JL_nil ?_
                refine N_then ?_
                refine J_seq ?_
                refine J_region ?_
                refine JL_q (wants_none rfl) rfl (ex_move rfl) ?_
                refine JL_q (wants_none rfl) rfl (ex_move rfl) ?_
                refine JL_q (wants_none rfl) rfl (ex_move rfl) ?_
                refine JL_q (wants_none rfl) rfl (ex_load_bx_agg 0 ti_80 rfl rfl rfl rfl) ?_
                refine JL_inlinem (wants_none rfl) rfl rfl rfl (me_63_104 _ _ _ _) Try.func104 rfl Try.ntmps104 rfl rfl (fun K_ hK132 => ?_)
                refine J_region ?_
                refine JL_st (wants_none rfl) rfl (st_box' rfl (fun w hh => (cv_aggs ⟨cv_int, cv_int, cv_int, trivial⟩))) (fun b133 => ?_)
                refine JL_nil ?_
                refine N_inl0 (.inr rfl) hK132 rfl ?_
                refine JL_nil ?_
                refine N_then ?_
                refine J_seq ?_
                refine J_seq ?_
                refine J_region ?_
                refine JL_q (wants_none rfl) rfl (ex_move rfl) ?_
                refine JL_bnd fun r134 hr135 => ?_
                refine JL_callT (wants_none rfl) rfl Try.call53 rfl (CaT_of [8, 6, 7] [0, 1, 2, 3, 4, 5] rfl rfl (fun _ => rfl) fun w hh => c_impl_runner_step w x8_3 (⟨r6.1, r6.2.1, r6.2.2.1, s9.2.2.2.2.1, s9.2.2.2.2.2.1, s9.2.2.2.2.2.2.1⟩ : Grunner) x8_0 g10_3 g10_4 _ rfl (hh.handed [8, 6, 7] rfl rfl rfl rfl) (hh.apart [8, 6, 7] rfl (hh.rd 5 rfl)) _ hr135) (fun x136 => ?_)
                obtain ⟨x136_0, x136_1⟩ := x136
                refine JL_q (wants_none rfl) rfl (ex_not rfl) ?_
                refine JL_nil ?_
                refine N_then ?_
                refine J_if rfl (fun h137 => ?_) (fun h137 => ?_)
                · refine J_seq ?_
                  refine J_region ?_
                  refine JL_q (wants_none rfl) rfl (ex_assign rfl) ?_
                  refine JL_q (wants_none rfl) rfl (ex_assign rfl) ?_
                  refine JL_q (wants_none rfl) rfl (ex_assign rfl) ?_
                  refine JL_nil ?_
                  refine N_then ?_
                  refine J_ret ?_
                  refine N_then_ret ?_
                  refine N_block_ret ?_
                  refine N_then_ret ?_
                  refine N_round_reti ?_
                  refine N_inl3 hK3 rfl (rv_tmp rfl) (rv_tmp rfl) (rv_tmp rfl) ?_
                  refine JL_q (wants_none rfl) rfl (ex_move rfl) ?_
                  refine JL_q (wants_none rfl) rfl (ex_extract rfl rfl) ?_
                  refine JL_q (wants_none rfl) rfl (ex_extract rfl rfl) ?_
                  refine JL_q (wants_none rfl) rfl (ex_extract rfl rfl) ?_
                  refine JL_q (wants_none rfl) rfl (ex_assign rfl) ?_
                  refine JL_q (wants_none rfl) rfl (ex_assign rfl) ?_
                  refine JL_q (wants_none rfl) rfl (ex_assign rfl) ?_
                  refine JL_nil ?_
                  refine N_then ?_
                  refine J_seq ?_
                  refine J_region ?_
                  refine JL_q (wants_none rfl) rfl (ex_move rfl) ?_
                  refine JL_q (wants_none rfl) rfl (ex_move rfl) ?_
                  refine JL_q (wants_none rfl) rfl (ex_move rfl) ?_
                  refine JL_q (wants_none rfl) rfl (ex_assign rfl) ?_
                  refine JL_q (wants_none rfl) rfl (ex_assign rfl) ?_
                  refine JL_q (wants_none rfl) rfl (ex_assign rfl) ?_
                  refine JL_nil ?_
                  refine N_then ?_
                  refine J_ret ?_
                  exact N_ret3 rfl (rv_tmp rfl) (rv_tmp rfl) (rv_tmp rfl) (fun w hh => ⟨(v118, v114, (g10_2 ++ (((x110_0 : Value).ownBlock.toList ++ []) ++ (((x110_1 : Value).ownBlock.toList ++ []) ++ []))), b2), rfl, hh.sel [5, 6, 7] rfl⟩)
                · refine J_skip ?_
                  refine N_then ?_
                  refine J_region ?_
                  refine JL_q (wants_none rfl) rfl (ex_move rfl) ?_
                  refine JL_q (wants_none rfl) rfl (ex_fieldAddr fi_80_1 rfl rfl) ?_
                  refine JL_q (wants_none rfl) rfl (ex_load_bx 4 ti_2 rfl rfl rfl) ?_
                  refine JL_q (wants_none rfl) rfl (ex_add rfl rfl) ?_
                  refine JL_q (wants_none rfl) rfl (ex_assign rfl) ?_
                  refine JL_nil ?_
                  refine N_block ?_
                  refine N_then ?_
                  refine J_region ?_
                  refine JL_q (wants_none rfl) rfl (ex_move rfl) ?_
                  refine JL_q (wants_none rfl) rfl (ex_add rfl rfl) ?_
                  refine JL_q (wants_none rfl) rfl (ex_assign rfl) ?_
                  refine JL_nil ?_
                  exact N_next' (v118, v114, (g10_2 ++ (((x110_0 : Value).ownBlock.toList ++ []) ++ (((x110_1 : Value).ownBlock.toList ++ []) ++ []))), x136_0, x136_1) ⟨rfl, rfl, rfl, rfl, rfl, trivial⟩ [5, 6, 7, 8, 1, 2, 0] rfl rfl
            · refine JO_q rfl (wants_none rfl) rfl (ex_buildN [(0, .int .i64 r48, [.int .i64 r48]), (1, .int .i64 1, [.int .i64 1]), (2, .agg #[.int .i64 r80.State, x110_0, x110_1], [.int .i64 r80.State, x110_0, x110_1])] si_72 rfl (.cons fi_72_0 rfl rfl rfl (.cons fi_72_1 rfl rfl rfl (.cons fi_72_2 rfl rfl rfl .nil))) (fun w hh => ⟨cv_int, cv_int, (cv_aggs ⟨cv_int, (hh.cv_ow 0 rfl), (hh.cv_ow 1 rfl), trivial⟩), trivial⟩)) ?_
              refine JD_two (i := 5) (j := 15) (by kernel_rfl) ?_ ?_
              · refine JO_q rfl (wants_none rfl) rfl (ex_load_bx 4 ti_66 rfl rfl rfl) ?_
                refine JD_one (i := 15) (by kernel_rfl) ?_
                refine JO_ctx (fun w hh => hh.tokf 0 rfl rfl) (tokf_owns (i := 0) rfl) ?_
                refine JO_ctx (fun w hh => hh.tokf 2 rfl rfl) (tokf_owns (i := 2) rfl) ?_
                refine JO_st rfl (wants_none rfl) rfl (st_buildSlice_od (vs := [.agg #[.int .i64 r48, .int .i64 1, .int .i64 r80.State, x110_0, x110_1]]) (B := (((x110_0 : Value).ownBlock.toList ++ []) ++ (((x110_1 : Value).ownBlock.toList ++ []) ++ []))) ([(⟨r48, 1, r80.State, r80.Left, r80.Right⟩ : Grecord)] : List Grecord) [1, 0] Try.underlying66 ti_72 zi_72 rfl rfl rfl rfl rfl (fun w hh => (dwv_cons (Grecord.dw (hh.dw 1 rfl) (hh.dw 0 rfl)) dwv_nil))) (fun _ hk => nomatch hk) (fun b138 => ?_)
                refine JD_bnd fun z139 hz140 => ?_
                refine JD_one (i := 16) (by kernel_rfl) ?_
                refine JO_st rfl (wants_none rfl) rfl (st_append_od 6 0 Try.underlying66 ti_72 zi_72 rfl bi_72 rfl rfl rfl rfl rfl rfl hz140) (sub_od 0 rfl) (fun v141 => ?_)
                refine JD_take (i := 17) hp13 rfl (by kernel_rfl) (by kernel_rfl) (by kernel_rfl) (wants_none rfl) rfl (ex_nilCheck rfl) ?_
                refine JD_take (i := 18) hp13 rfl (by kernel_rfl) (by kernel_rfl) (by kernel_rfl) (wants_none rfl) rfl (ex_fieldAddr fi_70_0 rfl rfl) ?_
                refine JD_take (i := 19) hp13 rfl (by kernel_rfl) (by kernel_rfl) (by kernel_rfl) (wants_none rfl) rfl (ex_fieldAddr fi_68_1 rfl rfl) ?_
                refine JD_one (i := 20) (by kernel_rfl) ?_
                refine JO_sk rfl (wants_none rfl) (sk_store_bx' 7 ti_66 rfl rfl (fun w hh => (hh.cv_od 6 rfl)) rfl rfl rfl rfl) (sub_bx 1 rfl) ?_
                refine JD_done (by kernel_rfl) ?_
                refine N_block ?_
                refine N_then ?_
                refine J_region ?_
                refine JL_q (wants_none rfl) rfl (ex_move rfl) ?_
                refine JL_q (wants_none rfl) rfl (ex_move rfl) ?_
                refine JL_q (wants_none rfl) rfl (ex_nilCheck rfl) ?_
                refine JL_q (wants_none rfl) rfl (ex_fieldAddr fi_70_0 rfl rfl) ?_
                refine JL_q (wants_none rfl) rfl (ex_fieldAddr fi_68_0 rfl rfl) ?_
                refine JL_q (wants_none rfl) rfl (ex_load_bx 7 ti_33 rfl rfl rfl) ?_
                refine JL_q (wants_none rfl) rfl (ex_move rfl) ?_
                refine JL_st (wants_none rfl) rfl (st_buildSlice (vs := [.int .i64 s9.2.2.2.2.2.2.2.1]) ([s9.2.2.2.2.2.2.2.1] : List Int) Try.underlying33 ti_2 zi_2 rfl rfl rfl (fun w hh => ⟨(Rd.mk_int _ _ _), trivial⟩)) (fun b142 => ?_)
                refine JL_bnd fun z143 hz144 => ?_
                refine JL_st (wants_none rfl) rfl (st_append 6 Try.underlying33 ti_2 zi_2 rfl bi_2 rfl rfl rfl rfl (fun w hh => hh.src_ow 0 rfl) hz144) (fun v145 => ?_)
                refine JL_q (wants_none rfl) rfl (ex_nilCheck rfl) ?_
                refine JL_q (wants_none rfl) rfl (ex_fieldAddr fi_70_0 rfl rfl) ?_
                refine JL_q (wants_none rfl) rfl (ex_fieldAddr fi_68_0 rfl rfl) ?_
                refine JL_sk (wants_none rfl) (sk_store_bx' 8 ti_33 rfl rfl (fun w hh => (hh.cv_ow 6 rfl)) rfl rfl rfl rfl) ?_
                refine JL_nil ?_
                refine N_inl0 (.inr rfl) hK11 rfl ?_
                refine JL_nil ?_
                refine N_then ?_
                refine J_seq ?_
                refine J_cut' (S' := Unit) (G' := Unit) (fun _ _ => [(2, .int .i64 p1), (3, .iface 63 (.pointer (some ⟨b2, 0, none⟩))), (11, .pointer (some ⟨x8_3, 0, none⟩)), (12, .int .i64 s9.2.2.2.2.2.2.2.1), (13, .int .i64 s9.2.2.2.2.2.2.2.2)]) (fun _ _ => [.ow 2 v145 z143, .od 72 v141 z139 (g10_2 ++ (((x110_0 : Value).ownBlock.toList ++ []) ++ (((x110_1 : Value).ownBlock.toList ++ []) ++ []))), .bx b2 70 [v145, v141, .int .i64 s9.2.2.1, .int .i64 s9.2.2.2.2.2.2.2.1], .rd x8_0 r6.2.2.1, .ow 2 g10_3 s9.2.2.2.2.2.1, .ow 2 g10_4 s9.2.2.2.2.2.2.1, .bx x8_3 112 [.int .i64 r6.1, .int .i64 r6.2.1, x8_0, .int .i64 s9.2.2.2.2.1, g10_3, g10_4]]) ?_ (fun s146 g147 => ?_)
                · refine J_seq ?_
                  refine J_region ?_
                  refine JL_q (wants_none rfl) rfl (ex_move rfl) ?_
                  refine JL_q (wants_none rfl) rfl (ex_move rfl) ?_
                  refine JL_q (wants_none rfl) rfl (ex_eql rfl rfl) ?_
                  refine JL_q (wants_none rfl) rfl (ex_move rfl) ?_
                  refine JL_cond (fun h148 => ?_) (fun h148 => ?_)
                  · refine JL_passed rfl rfl rfl h148 ?_
                    refine JL_passed rfl rfl rfl h148 ?_
                    refine JL_q (wants_none rfl) rfl (ex_pick_true rfl h148 rfl) ?_
                    refine JL_nil ?_
                    refine N_then ?_
                    refine J_if_true rfl rfl ?_
                    refine J_seq ?_
                    refine J_region ?_
                    refine JL_q (wants_none rfl) rfl (ex_move rfl) ?_
                    refine JL_q (wants_none rfl) rfl (ex_move rfl) ?_
                    refine JL_bnd fun r149 hr150 => ?_
                    refine JL_call (wants_none rfl) rfl Try.call51 rfl (Ca_of0 fun w hh => c_impl_runner_halts _ w (fun _ hk => hk.elim) _ _ (hh.bx_pa 12 rfl (Grunner.rdmk (Rd.mk_int _ _ _) (Rd.mk_int _ _ _) (hh.rd0 9 rfl) (Rd.mk_int _ _ _) (hh.ow0 10 rfl) (hh.ow0 11 rfl)) rfl) _ hr150) (fun _ => ?_)
                    refine JL_q (wants_none rfl) rfl (ex_assign rfl) ?_
                    refine JL_q (wants_none rfl) rfl (ex_assign rfl) ?_
                    refine JL_q (wants_none rfl) rfl (ex_assign rfl) ?_
                    refine JL_nil ?_
                    refine N_then ?_
                    refine J_ret ?_
                    refine N_mid_ret ?_
                    refine N_then_ret ?_
                    refine N_block_ret ?_
                    refine N_then_ret ?_
                    refine N_round_reti ?_
                    refine N_inl3 hK3 rfl (rv_tmp rfl) (rv_tmp rfl) (rv_tmp rfl) ?_
                    refine JL_q (wants_none rfl) rfl (ex_move rfl) ?_
                    refine JL_q (wants_none rfl) rfl (ex_extract rfl rfl) ?_
                    refine JL_q (wants_none rfl) rfl (ex_extract rfl rfl) ?_
                    refine JL_q (wants_none rfl) rfl (ex_extract rfl rfl) ?_
                    refine JL_q (wants_none rfl) rfl (ex_assign rfl) ?_
                    refine JL_q (wants_none rfl) rfl (ex_assign rfl) ?_
                    refine JL_q (wants_none rfl) rfl (ex_assign rfl) ?_
                    refine JL_nil ?_
                    refine N_then ?_
                    refine J_seq ?_
                    refine J_region ?_
                    refine JL_q (wants_none rfl) rfl (ex_move rfl) ?_
                    refine JL_q (wants_none rfl) rfl (ex_move rfl) ?_
                    refine JL_q (wants_none rfl) rfl (ex_move rfl) ?_
                    refine JL_q (wants_none rfl) rfl (ex_assign rfl) ?_
                    refine JL_q (wants_none rfl) rfl (ex_assign rfl) ?_
                    refine JL_q (wants_none rfl) rfl (ex_assign rfl) ?_
                    refine JL_nil ?_
                    refine N_then ?_
                    refine J_ret ?_
                    exact N_ret3 rfl (rv_tmp rfl) (rv_tmp rfl) (rv_tmp rfl) (fun w hh => ⟨(v145, v141, (g10_2 ++ (((x110_0 : Value).ownBlock.toList ++ []) ++ (((x110_1 : Value).ownBlock.toList ++ []) ++ []))), b2), rfl, hh.sel [6, 7, 8] rfl⟩)
                  · refine JL_q (wants_some rfl rfl rfl h148) rfl (ex_move rfl) ?_
                    refine JL_bnd fun r151 hr152 => ?_
                    refine JL_call (wants_some rfl rfl rfl h148) rfl Try.call51 rfl (Ca_of0 fun w hh => c_impl_runner_halts _ w (fun _ hk => hk.elim) _ _ (hh.bx_pa 12 rfl (Grunner.rdmk (Rd.mk_int _ _ _) (Rd.mk_int _ _ _) (hh.rd0 9 rfl) (Rd.mk_int _ _ _) (hh.ow0 10 rfl) (hh.ow0 11 rfl)) rfl) _ hr152) (fun _ => ?_)
                    refine JL_q (wants_none rfl) rfl (ex_pick_false rfl h148 rfl) ?_
                    refine JL_nil ?_
                    refine N_then ?_
                    refine J_if rfl (fun h153 => ?_) (fun h153 => ?_)
                    · refine J_seq ?_
                      refine J_region ?_
                      refine JL_q (wants_none rfl) rfl (ex_move rfl) ?_
                      refine JL_q (wants_none rfl) rfl (ex_move rfl) ?_
                      refine JL_bnd fun r154 hr155 => ?_
                      refine JL_call (wants_none rfl) rfl Try.call51 rfl (Ca_of0 fun w hh => c_impl_runner_halts _ w (fun _ hk => hk.elim) _ _ (hh.bx_pa 12 rfl (Grunner.rdmk (Rd.mk_int _ _ _) (Rd.mk_int _ _ _) (hh.rd0 9 rfl) (Rd.mk_int _ _ _) (hh.ow0 10 rfl) (hh.ow0 11 rfl)) rfl) _ hr155) (fun _ => ?_)
                      refine JL_q (wants_none rfl) rfl (ex_assign rfl) ?_
                      refine JL_q (wants_none rfl) rfl (ex_assign rfl) ?_
                      refine JL_q (wants_none rfl) rfl (ex_assign rfl) ?_
                      refine JL_nil ?_
                      refine N_then ?_
                      refine J_ret ?_
                      refine N_mid_ret ?_
                      refine N_then_ret ?_
                      refine N_block_ret ?_
                      refine N_then_ret ?_
                      refine N_round_reti ?_
                      refine N_inl3 hK3 rfl (rv_tmp rfl) (rv_tmp rfl) (rv_tmp rfl) ?_
                      refine JL_q (wants_none rfl) rfl (ex_move rfl) ?_
                      refine JL_q (wants_none rfl) rfl (ex_extract rfl rfl) ?_
                      refine JL_q (wants_none rfl) rfl (ex_extract rfl rfl) ?_
                      refine JL_q (wants_none rfl) rfl (ex_extract rfl rfl) ?_
                      refine JL_q (wants_none rfl) rfl (ex_assign rfl) ?_
                      refine JL_q (wants_none rfl) rfl (ex_assign rfl) ?_
                      refine JL_q (wants_none rfl) rfl (ex_assign rfl) ?_
                      refine JL_nil ?_
                      refine N_then ?_
                      refine J_seq ?_
                      refine J_region ?_
                      refine JL_q (wants_none rfl) rfl (ex_move rfl) ?_
                      refine JL_q (wants_none rfl) rfl (ex_move rfl) ?_
                      refine JL_q (wants_none rfl) rfl (ex_move rfl) ?_
                      refine JL_q (wants_none rfl) rfl (ex_assign rfl) ?_
                      refine JL_q (wants_none rfl) rfl (ex_assign rfl) ?_
                      refine JL_q (wants_none rfl) rfl (ex_assign rfl) ?_
                      refine JL_nil ?_
                      refine N_then ?_
                      refine J_ret ?_
                      exact N_ret3 rfl (rv_tmp rfl) (rv_tmp rfl) (rv_tmp rfl) (fun w hh => ⟨(v145, v141, (g10_2 ++ (((x110_0 : Value).ownBlock.toList ++ []) ++ (((x110_1 : Value).ownBlock.toList ++ []) ++ []))), b2), rfl, hh.sel [6, 7, 8] rfl⟩)
                    · refine J_skip ?_
                      exact N_meet' () ⟨rfl, rfl, rfl, rfl, rfl, trivial⟩ [6, 7, 8, 9, 10, 11, 12] rfl rfl
                · refine N_then ?_
                  refine J_seq ?_
                  refine J_region ?_
                  refine JL_q (wants_none rfl) rfl (ex_move rfl) ?_
                  refine JL_bnd fun r156 hr157 => ?_
                  refine JL_call (wants_none rfl) rfl Try.call52 rfl (Ca_of0 fun w hh => c_impl_runner_rule _ w (fun _ hk => hk.elim) _ _ (hh.bx_pa 6 rfl (Grunner.rdmk (Rd.mk_int _ _ _) (Rd.mk_int _ _ _) (hh.rd0 3 rfl) (Rd.mk_int _ _ _) (hh.ow0 4 rfl) (hh.ow0 5 rfl)) rfl) _ hr157) (fun _ => ?_)
                  refine JL_st (wants_none rfl) rfl (st_alloc zi_80 rfl) (fun b158 => ?_)
                  refine JL_sk (wants_none rfl) (sk_store_bx' 0 ti_80 rfl rfl (fun w hh => (cv_aggs ⟨cv_int, cv_int, cv_int, trivial⟩)) rfl rfl rfl rfl) ?_
                  refine JL_nil ?_
                  refine N_then ?_
                  refine J_seq ?_
                  refine J_region ?_
                  refine JL_q (wants_none rfl) rfl (ex_move rfl) ?_
                  refine JL_q (wants_none rfl) rfl (ex_move rfl) ?_
                  refine JL_q (wants_none rfl) rfl (ex_move rfl) ?_
                  refine JL_q (wants_none rfl) rfl (ex_load_bx_agg 0 ti_80 rfl rfl rfl rfl) ?_
                  refine JL_inlinem (wants_none rfl) rfl rfl rfl (me_63_104 _ _ _ _) Try.func104 rfl Try.ntmps104 rfl rfl (fun K_ hK159 => ?_)
                  refine J_region ?_
                  refine JL_st (wants_none rfl) rfl (st_box' rfl (fun w hh => (cv_aggs ⟨cv_int, cv_int, cv_int, trivial⟩))) (fun b160 => ?_)
                  refine JL_nil ?_
                  refine N_inl0 (.inr rfl) hK159 rfl ?_
                  refine JL_nil ?_
                  refine N_then ?_
                  refine J_seq ?_
                  refine J_seq ?_
                  refine J_region ?_
                  refine JL_q (wants_none rfl) rfl (ex_move rfl) ?_
                  refine JL_bnd fun r161 hr162 => ?_
                  refine JL_callT (wants_none rfl) rfl Try.call53 rfl (CaT_of [8, 6, 7] [0, 1, 2, 3, 4, 5] rfl rfl (fun _ => rfl) fun w hh => c_impl_runner_step w x8_3 (⟨r6.1, r6.2.1, r6.2.2.1, s9.2.2.2.2.1, s9.2.2.2.2.2.1, s9.2.2.2.2.2.2.1⟩ : Grunner) x8_0 g10_3 g10_4 _ rfl (hh.handed [8, 6, 7] rfl rfl rfl rfl) (hh.apart [8, 6, 7] rfl (hh.rd 5 rfl)) _ hr162) (fun x163 => ?_)
                  obtain ⟨x163_0, x163_1⟩ := x163
                  refine JL_q (wants_none rfl) rfl (ex_not rfl) ?_
                  refine JL_nil ?_
                  refine N_then ?_
                  refine J_if rfl (fun h164 => ?_) (fun h164 => ?_)
                  · refine J_seq ?_
                    refine J_region ?_
                    refine JL_q (wants_none rfl) rfl (ex_assign rfl) ?_
                    refine JL_q (wants_none rfl) rfl (ex_assign rfl) ?_
                    refine JL_q (wants_none rfl) rfl (ex_assign rfl) ?_
                    refine JL_nil ?_
                    refine N_then ?_
                    refine J_ret ?_
                    refine N_then_ret ?_
                    refine N_block_ret ?_
                    refine N_then_ret ?_
                    refine N_round_reti ?_
                    refine N_inl3 hK3 rfl (rv_tmp rfl) (rv_tmp rfl) (rv_tmp rfl) ?_
                    refine JL_q (wants_none rfl) rfl (ex_move rfl) ?_
                    refine JL_q (wants_none rfl) rfl (ex_extract rfl rfl) ?_
                    refine JL_q (wants_none rfl) rfl (ex_extract rfl rfl) ?_
                    refine JL_q (wants_none rfl) rfl (ex_extract rfl rfl) ?_
                    refine JL_q (wants_none rfl) rfl (ex_assign rfl) ?_
                    refine JL_q (wants_none rfl) rfl (ex_assign rfl) ?_
                    refine JL_q (wants_none rfl) rfl (ex_assign rfl) ?_
                    refine JL_nil ?_
                    refine N_then ?_
                    refine J_seq ?_
                    refine J_region ?_
                    refine JL_q (wants_none rfl) rfl (ex_move rfl) ?_
                    refine JL_q (wants_none rfl) rfl (ex_move rfl) ?_
                    refine JL_q (wants_none rfl) rfl (ex_move rfl) ?_
                    refine JL_q (wants_none rfl) rfl (ex_assign rfl) ?_
                    refine JL_q (wants_none rfl) rfl (ex_assign rfl) ?_
                    refine JL_q (wants_none rfl) rfl (ex_assign rfl) ?_
                    refine JL_nil ?_
                    refine N_then ?_
                    refine J_ret ?_
                    exact N_ret3 rfl (rv_tmp rfl) (rv_tmp rfl) (rv_tmp rfl) (fun w hh => ⟨(v145, v141, (g10_2 ++ (((x110_0 : Value).ownBlock.toList ++ []) ++ (((x110_1 : Value).ownBlock.toList ++ []) ++ []))), b2), rfl, hh.sel [5, 6, 7] rfl⟩)
                  · refine J_skip ?_
                    refine N_then ?_
                    refine J_region ?_
                    refine JL_q (wants_none rfl) rfl (ex_move rfl) ?_
                    refine JL_q (wants_none rfl) rfl (ex_fieldAddr fi_80_1 rfl rfl) ?_
                    refine JL_q (wants_none rfl) rfl (ex_load_bx 4 ti_2 rfl rfl rfl) ?_
                    refine JL_q (wants_none rfl) rfl (ex_add rfl rfl) ?_
                    refine JL_q (wants_none rfl) rfl (ex_assign rfl) ?_
                    refine JL_nil ?_
                    refine N_block ?_
                    refine N_then ?_
                    refine J_region ?_
                    refine JL_q (wants_none rfl) rfl (ex_move rfl) ?_
                    refine JL_q (wants_none rfl) rfl (ex_add rfl rfl) ?_
                    refine JL_q (wants_none rfl) rfl (ex_assign rfl) ?_
                    refine JL_nil ?_
                    exact N_next' (v145, v141, (g10_2 ++ (((x110_0 : Value).ownBlock.toList ++ []) ++ (((x110_1 : Value).ownBlock.toList ++ []) ++ []))), x163_0, x163_1) ⟨rfl, rfl, rfl, rfl, rfl, trivial⟩ [5, 6, 7, 8, 1, 2, 0] rfl rfl
              · refine JO_ctx (fun w hh => hh.tokf 0 rfl rfl) (tokf_owns (i := 0) rfl) ?_
                refine JO_ctx (fun w hh => hh.tokf 2 rfl rfl) (tokf_owns (i := 2) rfl) ?_
                refine JO_st rfl (wants_none rfl) rfl (st_buildSlice_od (vs := [.agg #[.int .i64 r48, .int .i64 1, .int .i64 r80.State, x110_0, x110_1]]) (B := (((x110_0 : Value).ownBlock.toList ++ []) ++ (((x110_1 : Value).ownBlock.toList ++ []) ++ []))) ([(⟨r48, 1, r80.State, r80.Left, r80.Right⟩ : Grecord)] : List Grecord) [1, 0] Try.underlying66 ti_72 zi_72 rfl rfl rfl rfl rfl (fun w hh => (dwv_cons (Grecord.dw (hh.dw 1 rfl) (hh.dw 0 rfl)) dwv_nil))) (fun _ hk => nomatch hk) (fun b165 => ?_)
                refine JD_one (i := 5) (by kernel_rfl) ?_
                refine JO_q rfl (wants_none rfl) rfl (ex_load_bx 7 ti_66 rfl rfl rfl) ?_
                refine JD_bnd fun z166 hz167 => ?_
                refine JD_one (i := 16) (by kernel_rfl) ?_
                refine JO_st rfl (wants_none rfl) rfl (st_append_od 6 0 Try.underlying66 ti_72 zi_72 rfl bi_72 rfl rfl rfl rfl rfl rfl hz167) (sub_od 0 rfl) (fun v168 => ?_)
                refine JD_take (i := 17) hp13 rfl (by kernel_rfl) (by kernel_rfl) (by kernel_rfl) (wants_none rfl) rfl (ex_nilCheck rfl) ?_
                refine JD_take (i := 18) hp13 rfl (by kernel_rfl) (by kernel_rfl) (by kernel_rfl) (wants_none rfl) rfl (ex_fieldAddr fi_70_0 rfl rfl) ?_
                refine JD_take (i := 19) hp13 rfl (by kernel_rfl) (by kernel_rfl) (by kernel_rfl) (wants_none rfl) rfl (ex_fieldAddr fi_68_1 rfl rfl) ?_
                refine JD_one (i := 20) (by kernel_rfl) ?_
                refine JO_sk rfl (wants_none rfl) (sk_store_bx' 7 ti_66 rfl rfl (fun w hh => (hh.cv_od 6 rfl)) rfl rfl rfl rfl) (sub_bx 1 rfl) ?_
                refine JD_done (by kernel_rfl) ?_
                refine N_block ?_
                refine N_then ?_
                refine J_region ?_
                refine JL_q (wants_none rfl) rfl (ex_move rfl) ?_
                refine JL_q (wants_none rfl) rfl (ex_move rfl) ?_
                refine JL_q (wants_none rfl) rfl (ex_nilCheck rfl) ?_
                refine JL_q (wants_none rfl) rfl (ex_fieldAddr fi_70_0 rfl rfl) ?_
                refine JL_q (wants_none rfl) rfl (ex_fieldAddr fi_68_0 rfl rfl) ?_
                refine JL_q (wants_none rfl) rfl (ex_load_bx 7 ti_33 rfl rfl rfl) ?_
                refine JL_q (wants_none rfl) rfl (ex_move rfl) ?_
                refine JL_st (wants_none rfl) rfl (st_buildSlice (vs := [.int .i64 s9.2.2.2.2.2.2.2.1]) ([s9.2.2.2.2.2.2.2.1] : List Int) Try.underlying33 ti_2 zi_2 rfl rfl rfl (fun w hh => ⟨(Rd.mk_int _ _ _), trivial⟩)) (fun b169 => ?_)
                refine JL_bnd fun z170 hz171 => ?_
                refine JL_st (wants_none rfl) rfl (st_append 6 Try.underlying33 ti_2 zi_2 rfl bi_2 rfl rfl rfl rfl (fun w hh => hh.src_ow 0 rfl) hz171) (fun v172 => ?_)
                refine JL_q (wants_none rfl) rfl (ex_nilCheck rfl) ?_
                refine JL_q (wants_none rfl) rfl (ex_fieldAddr fi_70_0 rfl rfl) ?_
                refine JL_q (wants_none rfl) rfl (ex_fieldAddr fi_68_0 rfl rfl) ?_
                refine JL_sk (wants_none rfl) (sk_store_bx' 8 ti_33 rfl rfl (fun w hh => (hh.cv_ow 6 rfl)) rfl rfl rfl rfl) ?_
                refine JL_nil ?_
                refine N_inl0 (.inr rfl) hK11 rfl ?_
                refine JL_nil ?_
                refine N_then ?_
                refine J_seq ?_
                refine J_cut' (S' := Unit) (G' := Unit) (fun _ _ => [(2, .int .i64 p1), (3, .iface 63 (.pointer (some ⟨b2, 0, none⟩))), (11, .pointer (some ⟨x8_3, 0, none⟩)), (12, .int .i64 s9.2.2.2.2.2.2.2.1), (13, .int .i64 s9.2.2.2.2.2.2.2.2)]) (fun _ _ => [.ow 2 v172 z170, .od 72 v168 z166 (g10_2 ++ (((x110_0 : Value).ownBlock.toList ++ []) ++ (((x110_1 : Value).ownBlock.toList ++ []) ++ []))), .bx b2 70 [v172, v168, .int .i64 s9.2.2.1, .int .i64 s9.2.2.2.2.2.2.2.1], .rd x8_0 r6.2.2.1, .ow 2 g10_3 s9.2.2.2.2.2.1, .ow 2 g10_4 s9.2.2.2.2.2.2.1, .bx x8_3 112 [.int .i64 r6.1, .int .i64 r6.2.1, x8_0, .int .i64 s9.2.2.2.2.1, g10_3, g10_4]]) ?_ (fun s173 g174 => ?_)
                · refine J_seq ?_
                  refine J_region ?_
                  refine JL_q (wants_none rfl) rfl (ex_move rfl) ?_
                  refine JL_q (wants_none rfl) rfl (ex_move rfl) ?_
                  refine JL_q (wants_none rfl) rfl (ex_eql rfl rfl) ?_
                  refine JL_q (wants_none rfl) rfl (ex_move rfl) ?_
                  refine JL_cond (fun h175 => ?_) (fun h175 => ?_)
                  · refine JL_passed rfl rfl rfl h175 ?_
                    refine JL_passed rfl rfl rfl h175 ?_
                    refine JL_q (wants_none rfl) rfl (ex_pick_true rfl h175 rfl) ?_
                    refine JL_nil ?_
                    refine N_then ?_
                    refine J_if_true rfl rfl ?_
                    refine J_seq ?_
                    refine J_region ?_
                    refine JL_q (wants_none rfl) rfl (ex_move rfl) ?_
                    refine JL_q (wants_none rfl) rfl (ex_move rfl) ?_
                    refine JL_bnd fun r176 hr177 => ?_
                    refine JL_call (wants_none rfl) rfl Try.call51 rfl (Ca_of0 fun w hh => c_impl_runner_halts _ w (fun _ hk => hk.elim) _ _ (hh.bx_pa 12 rfl (Grunner.rdmk (Rd.mk_int _ _ _) (Rd.mk_int _ _ _) (hh.rd0 9 rfl) (Rd.mk_int _ _ _) (hh.ow0 10 rfl) (hh.ow0 11 rfl)) rfl) _ hr177) (fun _ => ?_)
                    refine JL_q (wants_none rfl) rfl (ex_assign rfl) ?_
                    refine JL_q (wants_none rfl) rfl (ex_assign rfl) ?_
                    refine JL_q (wants_none rfl) rfl (ex_assign rfl) ?_
                    refine JL_nil ?_
                    refine N_then ?_
                    refine J_ret ?_
                    refine N_mid_ret ?_
                    refine N_then_ret ?_
                    refine N_block_ret ?_
                    refine N_then_ret ?_
                    refine N_round_reti ?_
                    refine N_inl3 hK3 rfl (rv_tmp rfl) (rv_tmp rfl) (rv_tmp rfl) ?_
                    refine JL_q (wants_none rfl) rfl (ex_move rfl) ?_
                    refine JL_q (wants_none rfl) rfl (ex_extract rfl rfl) ?_
                    refine JL_q (wants_none rfl) rfl (ex_extract rfl rfl) ?_
                    refine JL_q (wants_none rfl) rfl (ex_extract rfl rfl) ?_
                    refine JL_q (wants_none rfl) rfl (ex_assign rfl) ?_
                    refine JL_q (wants_none rfl) rfl (ex_assign rfl) ?_
                    refine JL_q (wants_none rfl) rfl (ex_assign rfl) ?_
                    refine JL_nil ?_
                    refine N_then ?_
                    refine J_seq ?_
                    refine J_region ?_
                    refine JL_q (wants_none rfl) rfl (ex_move rfl) ?_
                    refine JL_q (wants_none rfl) rfl (ex_move rfl) ?_
                    refine JL_q (wants_none rfl) rfl (ex_move rfl) ?_
                    refine JL_q (wants_none rfl) rfl (ex_assign rfl) ?_
                    refine JL_q (wants_none rfl) rfl (ex_assign rfl) ?_
                    refine JL_q (wants_none rfl) rfl (ex_assign rfl) ?_
                    refine JL_nil ?_
                    refine N_then ?_
                    refine J_ret ?_
                    exact N_ret3 rfl (rv_tmp rfl) (rv_tmp rfl) (rv_tmp rfl) (fun w hh => ⟨(v172, v168, (g10_2 ++ (((x110_0 : Value).ownBlock.toList ++ []) ++ (((x110_1 : Value).ownBlock.toList ++ []) ++ []))), b2), rfl, hh.sel [6, 7, 8] rfl⟩)
                  · refine JL_q (wants_some rfl rfl rfl h175) rfl (ex_move rfl) ?_
                    refine JL_bnd fun r178 hr179 => ?_
                    refine JL_call (wants_some rfl rfl rfl h175) rfl Try.call51 rfl (Ca_of0 fun w hh => c_impl_runner_halts _ w (fun _ hk => hk.elim) _ _ (hh.bx_pa 12 rfl (Grunner.rdmk (Rd.mk_int _ _ _) (Rd.mk_int _ _ _) (hh.rd0 9 rfl) (Rd.mk_int _ _ _) (hh.ow0 10 rfl) (hh.ow0 11 rfl)) rfl) _ hr179) (fun _ => ?_)
                    refine JL_q (wants_none rfl) rfl (ex_pick_false rfl h175 rfl) ?_
                    refine JL_nil ?_
                    refine N_then ?_
                    refine J_if rfl (fun h180 => ?_) (fun h180 => ?_)
                    · refine J_seq ?_
                      refine J_region ?_
                      refine JL_q (wants_none rfl) rfl (ex_move rfl) ?_
                      refine JL_q (wants_none rfl) rfl (ex_move rfl) ?_
                      refine JL_bnd fun r181 hr182 => ?_
                      refine JL_call (wants_none rfl) rfl Try.call51 rfl (Ca_of0 fun w hh => c_impl_runner_halts _ w (fun _ hk => hk.elim) _ _ (hh.bx_pa 12 rfl (Grunner.rdmk (Rd.mk_int _ _ _) (Rd.mk_int _ _ _) (hh.rd0 9 rfl) (Rd.mk_int _ _ _) (hh.ow0 10 rfl) (hh.ow0 11 rfl)) rfl) _ hr182) (fun _ => ?_)
                      refine JL_q (wants_none rfl) rfl (ex_assign rfl) ?_
                      refine JL_q (wants_none rfl) rfl (ex_assign rfl) ?_
                      refine JL_q (wants_none rfl) rfl (ex_assign rfl) ?_
                      refine JL_nil ?_
                      refine N_then ?_
                      refine J_ret ?_
                      refine N_mid_ret ?_
                      refine N_then_ret ?_
                      refine N_block_ret ?_
                      refine N_then_ret ?_
                      refine N_round_reti ?_
                      refine N_inl3 hK3 rfl (rv_tmp rfl) (rv_tmp rfl) (rv_tmp rfl) ?_
                      refine JL_q (wants_none rfl) rfl (ex_move rfl) ?_
                      refine JL_q (wants_none rfl) rfl (ex_extract rfl rfl) ?_
                      refine JL_q (wants_none rfl) rfl (ex_extract rfl rfl) ?_
                      refine JL_q (wants_none rfl) rfl (ex_extract rfl rfl) ?_
                      refine JL_q (wants_none rfl) rfl (ex_assign rfl) ?_
                      refine JL_q (wants_none rfl) rfl (ex_assign rfl) ?_
                      refine JL_q (wants_none rfl) rfl (ex_assign rfl) ?_
                      refine JL_nil ?_
                      refine N_then ?_
                      refine J_seq ?_
                      refine J_region ?_
                      refine JL_q (wants_none rfl) rfl (ex_move rfl) ?_
                      refine JL_q (wants_none rfl) rfl (ex_move rfl) ?_
                      refine JL_q (wants_none rfl) rfl (ex_move rfl) ?_
                      refine JL_q (wants_none rfl) rfl (ex_assign rfl) ?_
                      refine JL_q (wants_none rfl) rfl (ex_assign rfl) ?_
                      refine JL_q (wants_none rfl) rfl (ex_assign rfl) ?_
                      refine JL_nil ?_
                      refine N_then ?_
                      refine J_ret ?_
                      exact N_ret3 rfl (rv_tmp rfl) (rv_tmp rfl) (rv_tmp rfl) (fun w hh => ⟨(v172, v168, (g10_2 ++ (((x110_0 : Value).ownBlock.toList ++ []) ++ (((x110_1 : Value).ownBlock.toList ++ []) ++ []))), b2), rfl, hh.sel [6, 7, 8] rfl⟩)
                    · refine J_skip ?_
                      exact N_meet' () ⟨rfl, rfl, rfl, rfl, rfl, trivial⟩ [6, 7, 8, 9, 10, 11, 12] rfl rfl
                · refine N_then ?_
                  refine J_seq ?_
                  refine J_region ?_
                  refine JL_q (wants_none rfl) rfl (ex_move rfl) ?_
                  refine JL_bnd fun r183 hr184 => ?_
                  refine JL_call (wants_none rfl) rfl Try.call52 rfl (Ca_of0 fun w hh => c_impl_runner_rule _ w (fun _ hk => hk.elim) _ _ (hh.bx_pa 6 rfl (Grunner.rdmk (Rd.mk_int _ _ _) (Rd.mk_int _ _ _) (hh.rd0 3 rfl) (Rd.mk_int _ _ _) (hh.ow0 4 rfl) (hh.ow0 5 rfl)) rfl) _ hr184) (fun _ => ?_)
                  refine JL_st (wants_none rfl) rfl (st_alloc zi_80 rfl) (fun b185 => ?_)
                  refine JL_sk (wants_none rfl) (sk_store_bx' 0 ti_80 rfl rfl (fun w hh => (cv_aggs ⟨cv_int, cv_int, cv_int, trivial⟩)) rfl rfl rfl rfl) ?_
                  refine JL_nil ?_
                  refine N_then ?_
                  refine J_seq ?_
                  refine J_region ?_
                  refine JL_q (wants_none rfl) rfl (ex_move rfl) ?_
                  refine JL_q (wants_none rfl) rfl (ex_move rfl) ?_
                  refine JL_q (wants_none rfl) rfl (ex_move rfl) ?_
                  refine JL_q (wants_none rfl) rfl (ex_load_bx_agg 0 ti_80 rfl rfl rfl rfl) ?_
                  refine JL_inlinem (wants_none rfl) rfl rfl rfl (me_63_104 _ _ _ _) Try.func104 rfl Try.ntmps104 rfl rfl (fun K_ hK186 => ?_)
                  refine J_region ?_
                  refine JL_st (wants_none rfl) rfl (st_box' rfl (fun w hh => (cv_aggs ⟨cv_int, cv_int, cv_int, trivial⟩))) (fun b187 => ?_)
                  refine JL_nil ?_
                  refine N_inl0 (.inr rfl) hK186 rfl ?_
                  refine JL_nil ?_
                  refine N_then ?_
                  refine J_seq ?_
                  refine J_seq ?_
                  refine J_region ?_
                  refine JL_q (wants_none rfl) rfl (ex_move rfl) ?_
                  refine JL_bnd fun r188 hr189 => ?_
                  refine JL_callT (wants_none rfl) rfl Try.call53 rfl (CaT_of [8, 6, 7] [0, 1, 2, 3, 4, 5] rfl rfl (fun _ => rfl) fun w hh => c_impl_runner_step w x8_3 (⟨r6.1, r6.2.1, r6.2.2.1, s9.2.2.2.2.1, s9.2.2.2.2.2.1, s9.2.2.2.2.2.2.1⟩ : Grunner) x8_0 g10_3 g10_4 _ rfl (hh.handed [8, 6, 7] rfl rfl rfl rfl) (hh.apart [8, 6, 7] rfl (hh.rd 5 rfl)) _ hr189) (fun x190 => ?_)
                  obtain ⟨x190_0, x190_1⟩ := x190
                  refine JL_q (wants_none rfl) rfl (ex_not rfl) ?_
                  refine JL_nil ?_
                  refine N_then ?_
                  refine J_if rfl (fun h191 => ?_) (fun h191 => ?_)
                  · refine J_seq ?_
                    refine J_region ?_
                    refine JL_q (wants_none rfl) rfl (ex_assign rfl) ?_
                    refine JL_q (wants_none rfl) rfl (ex_assign rfl) ?_
                    refine JL_q (wants_none rfl) rfl (ex_assign rfl) ?_
                    refine JL_nil ?_
                    refine N_then ?_
                    refine J_ret ?_
                    refine N_then_ret ?_
                    refine N_block_ret ?_
                    refine N_then_ret ?_
                    refine N_round_reti ?_
                    refine N_inl3 hK3 rfl (rv_tmp rfl) (rv_tmp rfl) (rv_tmp rfl) ?_
                    refine JL_q (wants_none rfl) rfl (ex_move rfl) ?_
                    refine JL_q (wants_none rfl) rfl (ex_extract rfl rfl) ?_
                    refine JL_q (wants_none rfl) rfl (ex_extract rfl rfl) ?_
                    refine JL_q (wants_none rfl) rfl (ex_extract rfl rfl) ?_
                    refine JL_q (wants_none rfl) rfl (ex_assign rfl) ?_
                    refine JL_q (wants_none rfl) rfl (ex_assign rfl) ?_
                    refine JL_q (wants_none rfl) rfl (ex_assign rfl) ?_
                    refine JL_nil ?_
                    refine N_then ?_
                    refine J_seq ?_
                    refine J_region ?_
                    refine JL_q (wants_none rfl) rfl (ex_move rfl) ?_
                    refine JL_q (wants_none rfl) rfl (ex_move rfl) ?_
                    refine JL_q (wants_none rfl) rfl (ex_move rfl) ?_
                    refine JL_q (wants_none rfl) rfl (ex_assign rfl) ?_
                    refine JL_q (wants_none rfl) rfl (ex_assign rfl) ?_
                    refine JL_q (wants_none rfl) rfl (ex_assign rfl) ?_
                    refine JL_nil ?_
                    refine N_then ?_
                    refine J_ret ?_
                    exact N_ret3 rfl (rv_tmp rfl) (rv_tmp rfl) (rv_tmp rfl) (fun w hh => ⟨(v172, v168, (g10_2 ++ (((x110_0 : Value).ownBlock.toList ++ []) ++ (((x110_1 : Value).ownBlock.toList ++ []) ++ []))), b2), rfl, hh.sel [5, 6, 7] rfl⟩)
                  · refine J_skip ?_
                    refine N_then ?_
                    refine J_region ?_
                    refine JL_q (wants_none rfl) rfl (ex_move rfl) ?_
                    refine JL_q (wants_none rfl) rfl (ex_fieldAddr fi_80_1 rfl rfl) ?_
                    refine JL_q (wants_none rfl) rfl (ex_load_bx 4 ti_2 rfl rfl rfl) ?_
                    refine JL_q (wants_none rfl) rfl (ex_add rfl rfl) ?_
                    refine JL_q (wants_none rfl) rfl (ex_assign rfl) ?_
                    refine JL_nil ?_
                    refine N_block ?_
                    refine N_then ?_
                    refine J_region ?_
                    refine JL_q (wants_none rfl) rfl (ex_move rfl) ?_
                    refine JL_q (wants_none rfl) rfl (ex_add rfl rfl) ?_
                    refine JL_q (wants_none rfl) rfl (ex_assign rfl) ?_
                    refine JL_nil ?_
                    exact N_next' (v172, v168, (g10_2 ++ (((x110_0 : Value).ownBlock.toList ++ []) ++ (((x110_1 : Value).ownBlock.toList ++ []) ++ []))), x190_0, x190_1) ⟨rfl, rfl, rfl, rfl, rfl, trivial⟩ [5, 6, 7, 8, 1, 2, 0] rfl rfl
    · refine J_seq ?_
      refine J_region ?_
      refine JL_q (wants_none rfl) rfl (ex_move rfl) ?_
      refine JL_q (wants_none rfl) rfl (ex_move rfl) ?_
      refine JL_q (wants_none rfl) rfl (ex_nilCheck rfl) ?_
      refine JL_q (wants_none rfl) rfl (ex_fieldAddr fi_70_1 rfl rfl) ?_
      refine JL_q (wants_none rfl) rfl (ex_load_bx 2 ti_2 rfl rfl rfl) ?_
      refine JL_q (wants_none rfl) rfl (ex_lss rfl rfl) ?_
      refine JL_q (wants_none rfl) rfl (ex_assign rfl) ?_
      refine JL_nil ?_
      refine N_then ?_
      refine J_if rfl (fun h192 => ?_) (fun h192 => ?_)
      · refine J_seq ?_
        refine J_region ?_
        refine JL_q (wants_none rfl) rfl (ex_move rfl) ?_
        refine JL_q (wants_none rfl) rfl (ex_move rfl) ?_
        refine JL_q (wants_none rfl) rfl (ex_nilCheck rfl) ?_
        refine JL_q (wants_none rfl) rfl (ex_fieldAddr fi_70_1 rfl rfl) ?_
        refine JL_sk (wants_none rfl) (sk_store_bx' 2 ti_2 rfl rfl (fun w hh => cv_int) rfl rfl rfl rfl) ?_
        refine JL_nil ?_
        refine N_then ?_
        refine J_draw [1, 2] (by kernel_rfl) ?_
        refine JP_take (i := 0) [0, 3, 4, 5, 6] [1, 2] rfl (by kernel_rfl) (by kernel_rfl) (by kernel_rfl) rfl rfl (wants_none rfl) rfl (ex_move rfl) ?_
        refine JP_take (i := 1) [0, 3, 4, 5, 6] [1, 2] rfl (by kernel_rfl) (by kernel_rfl) (by kernel_rfl) rfl rfl (wants_none rfl) rfl (ex_move rfl) ?_
        refine JP_take (i := 2) [0, 3, 4, 5, 6] [1, 2] rfl (by kernel_rfl) (by kernel_rfl) (by kernel_rfl) rfl rfl (wants_none rfl) rfl (ex_nilCheck rfl) ?_
        refine JP_take (i := 3) [0, 3, 4, 5, 6] [1, 2] rfl (by kernel_rfl) (by kernel_rfl) (by kernel_rfl) rfl rfl (wants_none rfl) rfl (ex_fieldAddr fi_70_0 rfl rfl) ?_
        refine JP_take (i := 4) [0, 3, 4, 5, 6] [1, 2] rfl (by kernel_rfl) (by kernel_rfl) (by kernel_rfl) rfl rfl (wants_none rfl) rfl (ex_fieldAddr fi_68_1 rfl rfl) ?_
        refine JP_take (i := 6) [0, 3, 4, 5, 6] [1, 2] rfl (by kernel_rfl) (by kernel_rfl) (by kernel_rfl) rfl rfl (wants_none rfl) rfl (ex_move rfl) ?_
        refine JP_take (i := 7) [0, 3, 4, 5, 6] [1, 2] rfl (by kernel_rfl) (by kernel_rfl) (by kernel_rfl) rfl rfl (wants_none rfl) rfl (ex_nilCheck rfl) ?_
        refine JP_take (i := 8) [0, 3, 4, 5, 6] [1, 2] rfl (by kernel_rfl) (by kernel_rfl) (by kernel_rfl) rfl rfl (wants_none rfl) rfl (ex_fieldAddr fi_70_0 rfl rfl) ?_
        refine JP_take (i := 9) [0, 3, 4, 5, 6] [1, 2] rfl (by kernel_rfl) (by kernel_rfl) (by kernel_rfl) rfl rfl (wants_none rfl) rfl (ex_fieldAddr fi_68_0 rfl rfl) ?_
        refine JP_take (i := 12) [0, 3, 4, 5, 6] [1, 2] rfl (by kernel_rfl) (by kernel_rfl) (by kernel_rfl) rfl rfl (wants_none rfl) rfl (ex_move rfl) ?_
        refine JP_go [0, 3, 4, 5, 6] [1, 2] rfl rfl rfl (fun w194 h1_195 hp193 => ?_)
        refine JD_two (i := 5) (j := 10) (by kernel_rfl) ?_ ?_
        · refine JO_q rfl (wants_none rfl) rfl (ex_load_bx 2 ti_66 rfl rfl rfl) ?_
          refine JD_one (i := 10) (by kernel_rfl) ?_
          refine JO_q rfl (wants_none rfl) rfl (ex_load_bx 2 ti_33 rfl rfl rfl) ?_
          refine JD_bnd fun r196 hr197 => ?_
          refine JD_one (i := 11) (by kernel_rfl) ?_
          refine JO_call rfl (wants_none rfl) rfl Try.call34 rfl (Ca_of0 fun w hh => c_impl_size_int64 _ w (fun _ hk => hk.elim) _ _ (hh.ow0 0 rfl) _ hr197) (fun _ => ?_)
          refine JD_bnd fun r198 hr199 => ?_
          refine JD_one (i := 13) (by kernel_rfl) ?_
          refine JO_call rfl (wants_none rfl) rfl Try.call44 rfl (Ca_self (fun _ => rfl) fun w hh => c_impl_runner_config _ w (fun _ hk => hk.elim) _ _ (hh.bx_pa 6 rfl (Grunner.rdmk (Rd.mk_int _ _ _) (Rd.mk_int _ _ _) (hh.rd0 3 rfl) (Rd.mk_int _ _ _) (hh.ow0 4 rfl) (hh.ow0 5 rfl)) rfl) _ hr199) (fun x200 => ?_)
          obtain ⟨x200_0, x200_1⟩ := x200
          refine JD_one (i := 14) (by kernel_rfl) ?_
          refine JO_q rfl (wants_none rfl) rfl (ex_buildN [(0, .int .i64 r196, [.int .i64 r196]), (1, .int .i64 (-1), [.int .i64 (-1)]), (2, .agg #[.int .i64 r198.State, x200_0, x200_1], [.int .i64 r198.State, x200_0, x200_1])] si_72 rfl (.cons fi_72_0 rfl rfl rfl (.cons fi_72_1 rfl rfl rfl (.cons fi_72_2 rfl rfl rfl .nil))) (fun w hh => ⟨cv_int, cv_int, (cv_aggs ⟨cv_int, (hh.cv_ow 0 rfl), (hh.cv_ow 1 rfl), trivial⟩), trivial⟩)) ?_
          refine JD_one (i := 15) (by kernel_rfl) ?_
          refine JO_ctx (fun w hh => hh.tokf 0 rfl rfl) (tokf_owns (i := 0) rfl) ?_
          refine JO_ctx (fun w hh => hh.tokf 2 rfl rfl) (tokf_owns (i := 2) rfl) ?_
          refine JO_st rfl (wants_none rfl) rfl (st_buildSlice_od (vs := [.agg #[.int .i64 r196, .int .i64 (-1), .int .i64 r198.State, x200_0, x200_1]]) (B := (((x200_0 : Value).ownBlock.toList ++ []) ++ (((x200_1 : Value).ownBlock.toList ++ []) ++ []))) ([(⟨r196, (-1), r198.State, r198.Left, r198.Right⟩ : Grecord)] : List Grecord) [1, 0] Try.underlying66 ti_72 zi_72 rfl rfl rfl rfl rfl (fun w hh => (dwv_cons (Grecord.dw (hh.dw 1 rfl) (hh.dw 0 rfl)) dwv_nil))) (fun _ hk => nomatch hk) (fun b201 => ?_)
          refine JD_bnd fun z202 hz203 => ?_
          refine JD_one (i := 16) (by kernel_rfl) ?_
          refine JO_st rfl (wants_none rfl) rfl (st_append_od 6 0 Try.underlying66 ti_72 zi_72 rfl bi_72 rfl rfl rfl rfl rfl rfl hz203) (sub_od 0 rfl) (fun v204 => ?_)
          refine JD_take (i := 17) hp193 rfl (by kernel_rfl) (by kernel_rfl) (by kernel_rfl) (wants_none rfl) rfl (ex_nilCheck rfl) ?_
          refine JD_take (i := 18) hp193 rfl (by kernel_rfl) (by kernel_rfl) (by kernel_rfl) (wants_none rfl) rfl (ex_fieldAddr fi_70_0 rfl rfl) ?_
          refine JD_take (i := 19) hp193 rfl (by kernel_rfl) (by kernel_rfl) (by kernel_rfl) (wants_none rfl) rfl (ex_fieldAddr fi_68_1 rfl rfl) ?_
          refine JD_one (i := 20) (by kernel_rfl) ?_
          refine JO_sk rfl (wants_none rfl) (sk_store_bx' 7 ti_66 rfl rfl (fun w hh => (hh.cv_od 6 rfl)) rfl rfl rfl rfl) (sub_bx 1 rfl) ?_
          refine JD_done (by kernel_rfl) ?_
          refine N_block ?_
          refine N_then ?_
          refine J_region ?_
          refine JL_q (wants_none rfl) rfl (ex_move rfl) ?_
          refine JL_q (wants_none rfl) rfl (ex_move rfl) ?_
          refine JL_q (wants_none rfl) rfl (ex_nilCheck rfl) ?_
          refine JL_q (wants_none rfl) rfl (ex_fieldAddr fi_70_0 rfl rfl) ?_
          refine JL_q (wants_none rfl) rfl (ex_fieldAddr fi_68_0 rfl rfl) ?_
          refine JL_q (wants_none rfl) rfl (ex_load_bx 7 ti_33 rfl rfl rfl) ?_
          refine JL_q (wants_none rfl) rfl (ex_move rfl) ?_
          refine JL_st (wants_none rfl) rfl (st_buildSlice (vs := [.int .i64 s9.2.2.2.2.2.2.2.1]) ([s9.2.2.2.2.2.2.2.1] : List Int) Try.underlying33 ti_2 zi_2 rfl rfl rfl (fun w hh => ⟨(Rd.mk_int _ _ _), trivial⟩)) (fun b205 => ?_)
          refine JL_bnd fun z206 hz207 => ?_
          refine JL_st (wants_none rfl) rfl (st_append 6 Try.underlying33 ti_2 zi_2 rfl bi_2 rfl rfl rfl rfl (fun w hh => hh.src_ow 0 rfl) hz207) (fun v208 => ?_)
          refine JL_q (wants_none rfl) rfl (ex_nilCheck rfl) ?_
          refine JL_q (wants_none rfl) rfl (ex_fieldAddr fi_70_0 rfl rfl) ?_
          refine JL_q (wants_none rfl) rfl (ex_fieldAddr fi_68_0 rfl rfl) ?_
          refine JL_sk (wants_none rfl) (sk_store_bx' 8 ti_33 rfl rfl (fun w hh => (hh.cv_ow 6 rfl)) rfl rfl rfl rfl) ?_
          refine JL_nil ?_
          refine N_inl0 (.inr rfl) hK11 rfl ?_
          refine JL_nil ?_
          refine N_then ?_
          refine J_seq ?_
          refine J_cut' (S' := Unit) (G' := Unit) (fun _ _ => [(2, .int .i64 p1), (3, .iface 63 (.pointer (some ⟨b2, 0, none⟩))), (11, .pointer (some ⟨x8_3, 0, none⟩)), (12, .int .i64 s9.2.2.2.2.2.2.2.1), (13, .int .i64 s9.2.2.2.2.2.2.2.2)]) (fun _ _ => [.ow 2 v208 z206, .od 72 v204 z202 (g10_2 ++ (((x200_0 : Value).ownBlock.toList ++ []) ++ (((x200_1 : Value).ownBlock.toList ++ []) ++ []))), .bx b2 70 [v208, v204, .int .i64 s9.2.2.2.2.2.2.2.1, .int .i64 s9.2.2.2.1], .rd x8_0 r6.2.2.1, .ow 2 g10_3 s9.2.2.2.2.2.1, .ow 2 g10_4 s9.2.2.2.2.2.2.1, .bx x8_3 112 [.int .i64 r6.1, .int .i64 r6.2.1, x8_0, .int .i64 s9.2.2.2.2.1, g10_3, g10_4]]) ?_ (fun s209 g210 => ?_)
          · refine J_seq ?_
            refine J_region ?_
            refine JL_q (wants_none rfl) rfl (ex_move rfl) ?_
            refine JL_q (wants_none rfl) rfl (ex_move rfl) ?_
            refine JL_q (wants_none rfl) rfl (ex_eql rfl rfl) ?_
            refine JL_q (wants_none rfl) rfl (ex_move rfl) ?_
            refine JL_cond (fun h211 => ?_) (fun h211 => ?_)
            · refine JL_passed rfl rfl rfl h211 ?_
              refine JL_passed rfl rfl rfl h211 ?_
              refine JL_q (wants_none rfl) rfl (ex_pick_true rfl h211 rfl) ?_
              refine JL_nil ?_
              refine N_then ?_
              refine J_if_true rfl rfl ?_
              refine J_seq ?_
              refine J_region ?_
              refine JL_q (wants_none rfl) rfl (ex_move rfl) ?_
              refine JL_q (wants_none rfl) rfl (ex_move rfl) ?_
              refine JL_bnd fun r212 hr213 => ?_
              refine JL_call (wants_none rfl) rfl Try.call51 rfl (Ca_of0 fun w hh => c_impl_runner_halts _ w (fun _ hk => hk.elim) _ _ (hh.bx_pa 12 rfl (Grunner.rdmk (Rd.mk_int _ _ _) (Rd.mk_int _ _ _) (hh.rd0 9 rfl) (Rd.mk_int _ _ _) (hh.ow0 10 rfl) (hh.ow0 11 rfl)) rfl) _ hr213) (fun _ => ?_)
              refine JL_q (wants_none rfl) rfl (ex_assign rfl) ?_
              refine JL_q (wants_none rfl) rfl (ex_assign rfl) ?_
              refine JL_q (wants_none rfl) rfl (ex_assign rfl) ?_
              refine JL_nil ?_
              refine N_then ?_
              refine J_ret ?_
              refine N_mid_ret ?_
              refine N_then_ret ?_
              refine N_block_ret ?_
              refine N_then_ret ?_
              refine N_round_reti ?_
              refine N_inl3 hK3 rfl (rv_tmp rfl) (rv_tmp rfl) (rv_tmp rfl) ?_
              refine JL_q (wants_none rfl) rfl (ex_move rfl) ?_
              refine JL_q (wants_none rfl) rfl (ex_extract rfl rfl) ?_
              refine JL_q (wants_none rfl) rfl (ex_extract rfl rfl) ?_
              refine JL_q (wants_none rfl) rfl (ex_extract rfl rfl) ?_
              refine JL_q (wants_none rfl) rfl (ex_assign rfl) ?_
              refine JL_q (wants_none rfl) rfl (ex_assign rfl) ?_
              refine JL_q (wants_none rfl) rfl (ex_assign rfl) ?_
              refine JL_nil ?_
              refine N_then ?_
              refine J_seq ?_
              refine J_region ?_
              refine JL_q (wants_none rfl) rfl (ex_move rfl) ?_
              refine JL_q (wants_none rfl) rfl (ex_move rfl) ?_
              refine JL_q (wants_none rfl) rfl (ex_move rfl) ?_
              refine JL_q (wants_none rfl) rfl (ex_assign rfl) ?_
              refine JL_q (wants_none rfl) rfl (ex_assign rfl) ?_
              refine JL_q (wants_none rfl) rfl (ex_assign rfl) ?_
              refine JL_nil ?_
              refine N_then ?_
              refine J_ret ?_
              exact N_ret3 rfl (rv_tmp rfl) (rv_tmp rfl) (rv_tmp rfl) (fun w hh => ⟨(v208, v204, (g10_2 ++ (((x200_0 : Value).ownBlock.toList ++ []) ++ (((x200_1 : Value).ownBlock.toList ++ []) ++ []))), b2), rfl, hh.sel [6, 7, 8] rfl⟩)
            · refine JL_q (wants_some rfl rfl rfl h211) rfl (ex_move rfl) ?_
              refine JL_bnd fun r214 hr215 => ?_
              refine JL_call (wants_some rfl rfl rfl h211) rfl Try.call51 rfl (Ca_of0 fun w hh => c_impl_runner_halts _ w (fun _ hk => hk.elim) _ _ (hh.bx_pa 12 rfl (Grunner.rdmk (Rd.mk_int _ _ _) (Rd.mk_int _ _ _) (hh.rd0 9 rfl) (Rd.mk_int _ _ _) (hh.ow0 10 rfl) (hh.ow0 11 rfl)) rfl) _ hr215) (fun _ => ?_)
              refine JL_q (wants_none rfl) rfl (ex_pick_false rfl h211 rfl) ?_
              refine JL_nil ?_
              refine N_then ?_
              refine J_if rfl (fun h216 => ?_) (fun h216 => ?_)
              · refine J_seq ?_
                refine J_region ?_
                refine JL_q (wants_none rfl) rfl (ex_move rfl) ?_
                refine JL_q (wants_none rfl) rfl (ex_move rfl) ?_
                refine JL_bnd fun r217 hr218 => ?_
                refine JL_call (wants_none rfl) rfl Try.call51 rfl (Ca_of0 fun w hh => c_impl_runner_halts _ w (fun _ hk => hk.elim) _ _ (hh.bx_pa 12 rfl (Grunner.rdmk (Rd.mk_int _ _ _) (Rd.mk_int _ _ _) (hh.rd0 9 rfl) (Rd.mk_int _ _ _) (hh.ow0 10 rfl) (hh.ow0 11 rfl)) rfl) _ hr218) (fun _ => ?_)
                refine JL_q (wants_none rfl) rfl (ex_assign rfl) ?_
                refine JL_q (wants_none rfl) rfl (ex_assign rfl) ?_
                refine JL_q (wants_none rfl) rfl (ex_assign rfl) ?_
                refine JL_nil ?_
                refine N_then ?_
                refine J_ret ?_
                refine N_mid_ret ?_
                refine N_then_ret ?_
                refine N_block_ret ?_
                refine N_then_ret ?_
                refine N_round_reti ?_
                refine N_inl3 hK3 rfl (rv_tmp rfl) (rv_tmp rfl) (rv_tmp rfl) ?_
                refine JL_q (wants_none rfl) rfl (ex_move rfl) ?_
                refine JL_q (wants_none rfl) rfl (ex_extract rfl rfl) ?_
                refine JL_q (wants_none rfl) rfl (ex_extract rfl rfl) ?_
                refine JL_q (wants_none rfl) rfl (ex_extract rfl rfl) ?_
                refine JL_q (wants_none rfl) rfl (ex_assign rfl) ?_
                refine JL_q (wants_none rfl) rfl (ex_assign rfl) ?_
                refine JL_q (wants_none rfl) rfl (ex_assign rfl) ?_
                refine JL_nil ?_
                refine N_then ?_
                refine J_seq ?_
                refine J_region ?_
                refine JL_q (wants_none rfl) rfl (ex_move rfl) ?_
                refine JL_q (wants_none rfl) rfl (ex_move rfl) ?_
                refine JL_q (wants_none rfl) rfl (ex_move rfl) ?_
                refine JL_q (wants_none rfl) rfl (ex_assign rfl) ?_
                refine JL_q (wants_none rfl) rfl (ex_assign rfl) ?_
                refine JL_q (wants_none rfl) rfl (ex_assign rfl) ?_
                refine JL_nil ?_
                refine N_then ?_
                refine J_ret ?_
                exact N_ret3 rfl (rv_tmp rfl) (rv_tmp rfl) (rv_tmp rfl) (fun w hh => ⟨(v208, v204, (g10_2 ++ (((x200_0 : Value).ownBlock.toList ++ []) ++ (((x200_1 : Value).ownBlock.toList ++ []) ++ []))), b2), rfl, hh.sel [6, 7, 8] rfl⟩)
              · refine J_skip ?_
                exact N_meet' () ⟨rfl, rfl, rfl, rfl, rfl, trivial⟩ [6, 7, 8, 9, 10, 11, 12] rfl rfl
          · refine N_then ?_
            refine J_seq ?_
            refine J_region ?_
            refine JL_q (wants_none rfl) rfl (ex_move rfl) ?_
            refine JL_bnd fun r219 hr220 => ?_
            refine JL_call (wants_none rfl) rfl Try.call52 rfl (Ca_of0 fun w hh => c_impl_runner_rule _ w (fun _ hk => hk.elim) _ _ (hh.bx_pa 6 rfl (Grunner.rdmk (Rd.mk_int _ _ _) (Rd.mk_int _ _ _) (hh.rd0 3 rfl) (Rd.mk_int _ _ _) (hh.ow0 4 rfl) (hh.ow0 5 rfl)) rfl) _ hr220) (fun _ => ?_)
            refine JL_st (wants_none rfl) rfl (st_alloc zi_80 rfl) (fun b221 => ?_)
            refine JL_sk (wants_none rfl) (sk_store_bx' 0 ti_80 rfl rfl (fun w hh => (cv_aggs ⟨cv_int, cv_int, cv_int, trivial⟩)) rfl rfl rfl rfl) ?_
            refine JL_nil ?_
            refine N_then ?_
            refine J_seq ?_
            refine J_region ?_
            refine JL_q (wants_none rfl) rfl (ex_move rfl) ?_
            refine JL_q (wants_none rfl) rfl (ex_move rfl) ?_
            refine JL_q (wants_none rfl) rfl (ex_move rfl) ?_
            refine JL_q (wants_none rfl) rfl (ex_load_bx_agg 0 ti_80 rfl rfl rfl rfl) ?_
            refine JL_inlinem (wants_none rfl) rfl rfl rfl (me_63_104 _ _ _ _) Try.func104 rfl Try.ntmps104 rfl rfl (fun K_ hK222 => ?_)
            refine J_region ?_
            refine JL_st (wants_none rfl) rfl (st_box' rfl (fun w hh => (cv_aggs ⟨cv_int, cv_int, cv_int, trivial⟩))) (fun b223 => ?_)
            refine JL_nil ?_
            refine N_inl0 (.inr rfl) hK222 rfl ?_
            refine JL_nil ?_
            refine N_then ?_
            refine J_seq ?_
            refine J_seq ?_
            refine J_region ?_
            refine JL_q (wants_none rfl) rfl (ex_move rfl) ?_
            refine JL_bnd fun r224 hr225 => ?_
            refine JL_callT (wants_none rfl) rfl Try.call53 rfl (CaT_of [8, 6, 7] [0, 1, 2, 3, 4, 5] rfl rfl (fun _ => rfl) fun w hh => c_impl_runner_step w x8_3 (⟨r6.1, r6.2.1, r6.2.2.1, s9.2.2.2.2.1, s9.2.2.2.2.2.1, s9.2.2.2.2.2.2.1⟩ : Grunner) x8_0 g10_3 g10_4 _ rfl (hh.handed [8, 6, 7] rfl rfl rfl rfl) (hh.apart [8, 6, 7] rfl (hh.rd 5 rfl)) _ hr225) (fun x226 => ?_)
            obtain ⟨x226_0, x226_1⟩ := x226
            refine JL_q (wants_none rfl) rfl (ex_not rfl) ?_
            refine JL_nil ?_
            refine N_then ?_
            refine J_if rfl (fun h227 => ?_) (fun h227 => ?_)
            · refine J_seq ?_
              refine J_region ?_
              refine JL_q (wants_none rfl) rfl (ex_assign rfl) ?_
              refine JL_q (wants_none rfl) rfl (ex_assign rfl) ?_
              refine JL_q (wants_none rfl) rfl (ex_assign rfl) ?_
              refine JL_nil ?_
              refine N_then ?_
              refine J_ret ?_
              refine N_then_ret ?_
              refine N_block_ret ?_
              refine N_then_ret ?_
              refine N_round_reti ?_
              refine N_inl3 hK3 rfl (rv_tmp rfl) (rv_tmp rfl) (rv_tmp rfl) ?_
              refine JL_q (wants_none rfl) rfl (ex_move rfl) ?_
              refine JL_q (wants_none rfl) rfl (ex_extract rfl rfl) ?_
              refine JL_q (wants_none rfl) rfl (ex_extract rfl rfl) ?_
              refine JL_q (wants_none rfl) rfl (ex_extract rfl rfl) ?_
              refine JL_q (wants_none rfl) rfl (ex_assign rfl) ?_
              refine JL_q (wants_none rfl) rfl (ex_assign rfl) ?_
              refine JL_q (wants_none rfl) rfl (ex_assign rfl) ?_
              refine JL_nil ?_
              refine N_then ?_
              refine J_seq ?_
              refine J_region ?_
              refine JL_q (wants_none rfl) rfl (ex_move rfl) ?_
              refine JL_q (wants_none rfl) rfl (ex_move rfl) ?_
              refine JL_q (wants_none rfl) rfl (ex_move rfl) ?_
              refine JL_q (wants_none rfl) rfl (ex_assign rfl) ?_
              refine JL_q (wants_none rfl) rfl (ex_assign rfl) ?_
              refine JL_q (wants_none rfl) rfl (ex_assign rfl) ?_
              refine JL_nil ?_
              refine N_then ?_
              refine J_ret ?_
              exact N_ret3 rfl (rv_tmp rfl) (rv_tmp rfl) (rv_tmp rfl) (fun w hh => ⟨(v208, v204, (g10_2 ++ (((x200_0 : Value).ownBlock.toList ++ []) ++ (((x200_1 : Value).ownBlock.toList ++ []) ++ []))), b2), rfl, hh.sel [5, 6, 7] rfl⟩)
            · refine J_skip ?_
              refine N_then ?_
              refine J_region ?_
              refine JL_q (wants_none rfl) rfl (ex_move rfl) ?_
              refine JL_q (wants_none rfl) rfl (ex_fieldAddr fi_80_1 rfl rfl) ?_
              refine JL_q (wants_none rfl) rfl (ex_load_bx 4 ti_2 rfl rfl rfl) ?_
              refine JL_q (wants_none rfl) rfl (ex_add rfl rfl) ?_
              refine JL_q (wants_none rfl) rfl (ex_assign rfl) ?_
              refine JL_nil ?_
              refine N_block ?_
              refine N_then ?_
              refine J_region ?_
              refine JL_q (wants_none rfl) rfl (ex_move rfl) ?_
              refine JL_q (wants_none rfl) rfl (ex_add rfl rfl) ?_
              refine JL_q (wants_none rfl) rfl (ex_assign rfl) ?_
              refine JL_nil ?_
              exact N_next' (v208, v204, (g10_2 ++ (((x200_0 : Value).ownBlock.toList ++ []) ++ (((x200_1 : Value).ownBlock.toList ++ []) ++ []))), x226_0, x226_1) ⟨rfl, rfl, rfl, rfl, rfl, trivial⟩ [5, 6, 7, 8, 1, 2, 0] rfl rfl
        · refine JO_q rfl (wants_none rfl) rfl (ex_load_bx 2 ti_33 rfl rfl rfl) ?_
          refine JD_bnd fun r228 hr229 => ?_
          refine JD_two (i := 5) (j := 11) (by kernel_rfl) ?_ ?_
          · refine JO_q rfl (wants_none rfl) rfl (ex_load_bx 2 ti_66 rfl rfl rfl) ?_
            refine JD_one (i := 11) (by kernel_rfl) ?_
            refine JO_call rfl (wants_none rfl) rfl Try.call34 rfl (Ca_of0 fun w hh => c_impl_size_int64 _ w (fun _ hk => hk.elim) _ _ (hh.ow0 0 rfl) _ hr229) (fun _ => ?_)
            refine JD_bnd fun r230 hr231 => ?_
            refine JD_one (i := 13) (by kernel_rfl) ?_
            refine JO_call rfl (wants_none rfl) rfl Try.call44 rfl (Ca_self (fun _ => rfl) fun w hh => c_impl_runner_config _ w (fun _ hk => hk.elim) _ _ (hh.bx_pa 6 rfl (Grunner.rdmk (Rd.mk_int _ _ _) (Rd.mk_int _ _ _) (hh.rd0 3 rfl) (Rd.mk_int _ _ _) (hh.ow0 4 rfl) (hh.ow0 5 rfl)) rfl) _ hr231) (fun x232 => ?_)
            obtain ⟨x232_0, x232_1⟩ := x232
            refine JD_one (i := 14) (by kernel_rfl) ?_
            refine JO_q rfl (wants_none rfl) rfl (ex_buildN [(0, .int .i64 r228, [.int .i64 r228]), (1, .int .i64 (-1), [.int .i64 (-1)]), (2, .agg #[.int .i64 r230.State, x232_0, x232_1], [.int .i64 r230.State, x232_0, x232_1])] si_72 rfl (.cons fi_72_0 rfl rfl rfl (.cons fi_72_1 rfl rfl rfl (.cons fi_72_2 rfl rfl rfl .nil))) (fun w hh => ⟨cv_int, cv_int, (cv_aggs ⟨cv_int, (hh.cv_ow 0 rfl), (hh.cv_ow 1 rfl), trivial⟩), trivial⟩)) ?_
            refine JD_one (i := 15) (by kernel_rfl) ?_
            refine JO_ctx (fun w hh => hh.tokf 0 rfl rfl) (tokf_owns (i := 0) rfl) ?_
            refine JO_ctx (fun w hh => hh.tokf 2 rfl rfl) (tokf_owns (i := 2) rfl) ?_
            refine JO_st rfl (wants_none rfl) rfl (st_buildSlice_od (vs := [.agg #[.int .i64 r228, .int .i64 (-1), .int .i64 r230.State, x232_0, x232_1]]) (B := (((x232_0 : Value).ownBlock.toList ++ []) ++ (((x232_1 : Value).ownBlock.toList ++ []) ++ []))) ([(⟨r228, (-1), r230.State, r230.Left, r230.Right⟩ : Grecord)] : List Grecord) [1, 0] Try.underlying66 ti_72 zi_72 rfl rfl rfl rfl rfl (fun w hh => (dwv_cons (Grecord.dw (hh.dw 1 rfl) (hh.dw 0 rfl)) dwv_nil))) (fun _ hk => nomatch hk) (fun b233 => ?_)
            refine JD_bnd fun z234 hz235 => ?_
            refine JD_one (i := 16) (by kernel_rfl) ?_
            refine JO_st rfl (wants_none rfl) rfl (st_append_od 6 0 Try.underlying66 ti_72 zi_72 rfl bi_72 rfl rfl rfl rfl rfl rfl hz235) (sub_od 0 rfl) (fun v236 => ?_)
            refine JD_take (i := 17) hp193 rfl (by kernel_rfl) (by kernel_rfl) (by kernel_rfl) (wants_none rfl) rfl (ex_nilCheck rfl) ?_
            refine JD_take (i := 18) hp193 rfl (by kernel_rfl) (by kernel_rfl) (by kernel_rfl) (wants_none rfl) rfl (ex_fieldAddr fi_70_0 rfl rfl) ?_
            refine JD_take (i := 19) hp193 rfl (by kernel_rfl) (by kernel_rfl) (by kernel_rfl) (wants_none rfl) rfl (ex_fieldAddr fi_68_1 rfl rfl) ?_
            refine JD_one (i := 20) (by kernel_rfl) ?_
            refine JO_sk rfl (wants_none rfl) (sk_store_bx' 7 ti_66 rfl rfl (fun w hh => (hh.cv_od 6 rfl)) rfl rfl rfl rfl) (sub_bx 1 rfl) ?_
            refine JD_done (by kernel_rfl) ?_
            refine N_block ?_
            refine N_then ?_
            refine J_region ?_
            refine JL_q (wants_none rfl) rfl (ex_move rfl) ?_
            refine JL_q (wants_none rfl) rfl (ex_move rfl) ?_
            refine JL_q (wants_none rfl) rfl (ex_nilCheck rfl) ?_
            refine JL_q (wants_none rfl) rfl (ex_fieldAddr fi_70_0 rfl rfl) ?_
            refine JL_q (wants_none rfl) rfl (ex_fieldAddr fi_68_0 rfl rfl) ?_
            refine JL_q (wants_none rfl) rfl (ex_load_bx 7 ti_33 rfl rfl rfl) ?_
            refine JL_q (wants_none rfl) rfl (ex_move rfl) ?_
            refine JL_st (wants_none rfl) rfl (st_buildSlice (vs := [.int .i64 s9.2.2.2.2.2.2.2.1]) ([s9.2.2.2.2.2.2.2.1] : List Int) Try.underlying33 ti_2 zi_2 rfl rfl rfl (fun w hh => ⟨(Rd.mk_int _ _ _), trivial⟩)) (fun b237 => ?_)
            refine JL_bnd fun z238 hz239 => ?_
            refine JL_st (wants_none rfl) rfl (st_append 6 Try.underlying33 ti_2 zi_2 rfl bi_2 rfl rfl rfl rfl (fun w hh => hh.src_ow 0 rfl) hz239) (fun v240 => ?_)
            refine JL_q (wants_none rfl) rfl (ex_nilCheck rfl) ?_
            refine JL_q (wants_none rfl) rfl (ex_fieldAddr fi_70_0 rfl rfl) ?_
            refine JL_q (wants_none rfl) rfl (ex_fieldAddr fi_68_0 rfl rfl) ?_
            refine JL_sk (wants_none rfl) (sk_store_bx' 8 ti_33 rfl rfl (fun w hh => (hh.cv_ow 6 rfl)) rfl rfl rfl rfl) ?_
            refine JL_nil ?_
            refine N_inl0 (.inr rfl) hK11 rfl ?_
            refine JL_nil ?_
            refine N_then ?_
            refine J_seq ?_
            refine J_cut' (S' := Unit) (G' := Unit) (fun _ _ => [(2, .int .i64 p1), (3, .iface 63 (.pointer (some ⟨b2, 0, none⟩))), (11, .pointer (some ⟨x8_3, 0, none⟩)), (12, .int .i64 s9.2.2.2.2.2.2.2.1), (13, .int .i64 s9.2.2.2.2.2.2.2.2)]) (fun _ _ => [.ow 2 v240 z238, .od 72 v236 z234 (g10_2 ++ (((x232_0 : Value).ownBlock.toList ++ []) ++ (((x232_1 : Value).ownBlock.toList ++ []) ++ []))), .bx b2 70 [v240, v236, .int .i64 s9.2.2.2.2.2.2.2.1, .int .i64 s9.2.2.2.1], .rd x8_0 r6.2.2.1, .ow 2 g10_3 s9.2.2.2.2.2.1, .ow 2 g10_4 s9.2.2.2.2.2.2.1, .bx x8_3 112 [.int .i64 r6.1, .int .i64 r6.2.1, x8_0, .int .i64 s9.2.2.2.2.1, g10_3, g10_4]]) ?_ (fun s241 g242 => ?_)
            · refine J_seq ?_
              refine J_region ?_
              refine JL_q (wants_none rfl) rfl (ex_move rfl) ?_
              refine JL_q (wants_none rfl) rfl (ex_move rfl) ?_
              refine JL_q (wants_none rfl) rfl (ex_eql rfl rfl) ?_
              refine JL_q (wants_none rfl) rfl (ex_move rfl) ?_
              refine JL_cond (fun h243 => ?_) (fun h243 => ?_)
              · refine JL_passed rfl rfl rfl h243 ?_
                refine JL_passed rfl rfl rfl h243 ?_
                refine JL_q (wants_none rfl) rfl (ex_pick_true rfl h243 rfl) ?_
                refine JL_nil ?_
                refine N_then ?_
                refine J_if_true rfl rfl ?_
                refine J_seq ?_
                refine J_region ?_
                refine JL_q (wants_none rfl) rfl (ex_move rfl) ?_
                refine JL_q (wants_none rfl) rfl (ex_move rfl) ?_
                refine JL_bnd fun r244 hr245 => ?_
                refine JL_call (wants_none rfl) rfl Try.call51 rfl (Ca_of0 fun w hh => c_impl_runner_halts _ w (fun _ hk => hk.elim) _ _ (hh.bx_pa 12 rfl (Grunner.rdmk (Rd.mk_int _ _ _) (Rd.mk_int _ _ _) (hh.rd0 9 rfl) (Rd.mk_int _ _ _) (hh.ow0 10 rfl) (hh.ow0 11 rfl)) rfl) _ hr245) (fun _ => ?_)
                refine JL_q (wants_none rfl) rfl (ex_assign rfl) ?_
                refine JL_q (wants_none rfl) rfl (ex_assign rfl) ?_
                refine JL_q (wants_none rfl) rfl (ex_assign rfl) ?_
                refine JL_nil ?_
                refine N_then ?_
                refine J_ret ?_
                refine N_mid_ret ?_
                refine N_then_ret ?_
                refine N_block_ret ?_
                refine N_then_ret ?_
                refine N_round_reti ?_
                refine N_inl3 hK3 rfl (rv_tmp rfl) (rv_tmp rfl) (rv_tmp rfl) ?_
                refine JL_q (wants_none rfl) rfl (ex_move rfl) ?_
                refine JL_q (wants_none rfl) rfl (ex_extract rfl rfl) ?_
                refine JL_q (wants_none rfl) rfl (ex_extract rfl rfl) ?_
                refine JL_q (wants_none rfl) rfl (ex_extract rfl rfl) ?_
                refine JL_q (wants_none rfl) rfl (ex_assign rfl) ?_
                refine JL_q (wants_none rfl) rfl (ex_assign rfl) ?_
                refine JL_q (wants_none rfl) rfl (ex_assign rfl) ?_
                refine JL_nil ?_
                refine N_then ?_
                refine J_seq ?_
                refine J_region ?_
                refine JL_q (wants_none rfl) rfl (ex_move rfl) ?_
                refine JL_q (wants_none rfl) rfl (ex_move rfl) ?_
                refine JL_q (wants_none rfl) rfl (ex_move rfl) ?_
                refine JL_q (wants_none rfl) rfl (ex_assign rfl) ?_
                refine JL_q (wants_none rfl) rfl (ex_assign rfl) ?_
                refine JL_q (wants_none rfl) rfl (ex_assign rfl) ?_
                refine JL_nil ?_
                refine N_then ?_
                refine J_ret ?_
                exact N_ret3 rfl (rv_tmp rfl) (rv_tmp rfl) (rv_tmp rfl) (fun w hh => ⟨(v240, v236, (g10_2 ++ (((x232_0 : Value).ownBlock.toList ++ []) ++ (((x232_1 : Value).ownBlock.toList ++ []) ++ []))), b2), rfl, hh.sel [6, 7, 8] rfl⟩)
              · refine JL_q (wants_some rfl rfl rfl h243) rfl (ex_move rfl) ?_
                refine JL_bnd fun r246 hr247 => ?_
                refine JL_call (wants_some rfl rfl rfl h243) rfl Try.call51 rfl (Ca_of0 fun w hh => c_impl_runner_halts _ w (fun _ hk => hk.elim) _ _ (hh.bx_pa 12 rfl (Grunner.rdmk (Rd.mk_int _ _ _) (Rd.mk_int _ _ _) (hh.rd0 9 rfl) (Rd.mk_int _ _ _) (hh.ow0 10 rfl) (hh.ow0 11 rfl)) rfl) _ hr247) (fun _ => ?_)
                refine JL_q (wants_none rfl) rfl (ex_pick_false rfl h243 rfl) ?_
                refine JL_nil ?_
                refine N_then ?_
                refine J_if rfl (fun h248 => ?_) (fun h248 => ?_)
                · refine J_seq ?_
                  refine J_region ?_
                  refine JL_q (wants_none rfl) rfl (ex_move rfl) ?_
                  refine JL_q (wants_none rfl) rfl (ex_move rfl) ?_
                  refine JL_bnd fun r249 hr250 => ?_
                  refine JL_call (wants_none rfl) rfl Try.call51 rfl (Ca_of0 fun w hh => c_impl_runner_halts _ w (fun _ hk => hk.elim) _ _ (hh.bx_pa 12 rfl (Grunner.rdmk (Rd.mk_int _ _ _) (Rd.mk_int _ _ _) (hh.rd0 9 rfl) (Rd.mk_int _ _ _) (hh.ow0 10 rfl) (hh.ow0 11 rfl)) rfl) _ hr250) (fun _ => ?_)
                  refine JL_q (wants_none rfl) rfl (ex_assign rfl) ?_
                  refine JL_q (wants_none rfl) rfl (ex_assign rfl) ?_
                  refine JL_q (wants_none rfl) rfl (ex_assign rfl) ?_
                  refine JL_nil ?_
                  refine N_then ?_
                  refine J_ret ?_
                  refine N_mid_ret ?_
                  refine N_then_ret ?_
                  refine N_block_ret ?_
                  refine N_then_ret ?_
                  refine N_round_reti ?_
                  refine N_inl3 hK3 rfl (rv_tmp rfl) (rv_tmp rfl) (rv_tmp rfl) ?_
                  refine JL_q (wants_none rfl) rfl (ex_move rfl) ?_
                  refine JL_q (wants_none rfl) rfl (ex_extract rfl rfl) ?_
                  refine JL_q (wants_none rfl) rfl (ex_extract rfl rfl) ?_
                  refine JL_q (wants_none rfl) rfl (ex_extract rfl rfl) ?_
                  refine JL_q (wants_none rfl) rfl (ex_assign rfl) ?_
                  refine JL_q (wants_none rfl) rfl (ex_assign rfl) ?_
                  refine JL_q (wants_none rfl) rfl (ex_assign rfl) ?_
                  refine JL_nil ?_
                  refine N_then ?_
                  refine J_seq ?_
                  refine J_region ?_
                  refine JL_q (wants_none rfl) rfl (ex_move rfl) ?_
                  refine JL_q (wants_none rfl) rfl (ex_move rfl) ?_
                  refine JL_q (wants_none rfl) rfl (ex_move rfl) ?_
                  refine JL_q (wants_none rfl) rfl (ex_assign rfl) ?_
                  refine JL_q (wants_none rfl) rfl (ex_assign rfl) ?_
                  refine JL_q (wants_none rfl) rfl (ex_assign rfl) ?_
                  refine JL_nil ?_
                  refine N_then ?_
                  refine J_ret ?_
                  exact N_ret3 rfl (rv_tmp rfl) (rv_tmp rfl) (rv_tmp rfl) (fun w hh => ⟨(v240, v236, (g10_2 ++ (((x232_0 : Value).ownBlock.toList ++ []) ++ (((x232_1 : Value).ownBlock.toList ++ []) ++ []))), b2), rfl, hh.sel [6, 7, 8] rfl⟩)
                · refine J_skip ?_
                  exact N_meet' () ⟨rfl, rfl, rfl, rfl, rfl, trivial⟩ [6, 7, 8, 9, 10, 11, 12] rfl rfl
            · refine N_then ?_
              refine J_seq ?_
              refine J_region ?_
              refine JL_q (wants_none rfl) rfl (ex_move rfl) ?_
              refine JL_bnd fun r251 hr252 => ?_
              refine JL_call (wants_none rfl) rfl Try.call52 rfl (Ca_of0 fun w hh => c_impl_runner_rule _ w (fun _ hk => hk.elim) _ _ (hh.bx_pa 6 rfl (Grunner.rdmk (Rd.mk_int _ _ _) (Rd.mk_int _ _ _) (hh.rd0 3 rfl) (Rd.mk_int _ _ _) (hh.ow0 4 rfl) (hh.ow0 5 rfl)) rfl) _ hr252) (fun _ => ?_)
              refine JL_st (wants_none rfl) rfl (st_alloc zi_80 rfl) (fun b253 => ?_)
              refine JL_sk (wants_none rfl) (sk_store_bx' 0 ti_80 rfl rfl (fun w hh => (cv_aggs ⟨cv_int, cv_int, cv_int, trivial⟩)) rfl rfl rfl rfl) ?_
              refine JL_nil ?_
              refine N_then ?_
              refine J_seq ?_
              refine J_region ?_
              refine JL_q (wants_none rfl) rfl (ex_move rfl) ?_
              refine JL_q (wants_none rfl) rfl (ex_move rfl) ?_
              refine JL_q (wants_none rfl) rfl (ex_move rfl) ?_
              refine JL_q (wants_none rfl) rfl (ex_load_bx_agg 0 ti_80 rfl rfl rfl rfl) ?_
              refine JL_inlinem (wants_none rfl) rfl rfl rfl (me_63_104 _ _ _ _) Try.func104 rfl Try.ntmps104 rfl rfl (fun K_ hK254 => ?_)
              refine J_region ?_
              refine JL_st (wants_none rfl) rfl (st_box' rfl (fun w hh => (cv_aggs ⟨cv_int, cv_int, cv_int, trivial⟩))) (fun b255 => ?_)
              refine JL_nil ?_
              refine N_inl0 (.inr rfl) hK254 rfl ?_
              refine JL_nil ?_
              refine N_then ?_
              refine J_seq ?_
              refine J_seq ?_
              refine J_region ?_
              refine JL_q (wants_none rfl) rfl (ex_move rfl) ?_
              refine JL_bnd fun r256 hr257 => ?_
              refine JL_callT (wants_none rfl) rfl Try.call53 rfl (CaT_of [8, 6, 7] [0, 1, 2, 3, 4, 5] rfl rfl (fun _ => rfl) fun w hh => c_impl_runner_step w x8_3 (⟨r6.1, r6.2.1, r6.2.2.1, s9.2.2.2.2.1, s9.2.2.2.2.2.1, s9.2.2.2.2.2.2.1⟩ : Grunner) x8_0 g10_3 g10_4 _ rfl (hh.handed [8, 6, 7] rfl rfl rfl rfl) (hh.apart [8, 6, 7] rfl (hh.rd 5 rfl)) _ hr257) (fun x258 => ?_)
              obtain ⟨x258_0, x258_1⟩ := x258
              refine JL_q (wants_none rfl) rfl (ex_not rfl) ?_
              refine JL_nil ?_
              refine N_then ?_
              refine J_if rfl (fun h259 => ?_) (fun h259 => ?_)
              · refine J_seq ?_
                refine J_region ?_
                refine JL_q (wants_none rfl) rfl (ex_assign rfl) ?_
                refine JL_q (wants_none rfl) rfl (ex_assign rfl) ?_
                refine JL_q (wants_none rfl) rfl (ex_assign rfl) ?_
                refine JL_nil ?_
                refine N_then ?_
                refine J_ret ?_
                refine N_then_ret ?_
                refine N_block_ret ?_
                refine N_then_ret ?_
                refine N_round_reti ?_
                refine N_inl3 hK3 rfl (rv_tmp rfl) (rv_tmp rfl) (rv_tmp rfl) ?_
                refine JL_q (wants_none rfl) rfl (ex_move rfl) ?_
                refine JL_q (wants_none rfl) rfl (ex_extract rfl rfl) ?_
                refine JL_q (wants_none rfl) rfl (ex_extract rfl rfl) ?_
                refine JL_q (wants_none rfl) rfl (ex_extract rfl rfl) ?_
                refine JL_q (wants_none rfl) rfl (ex_assign rfl) ?_
                refine JL_q (wants_none rfl) rfl (ex_assign rfl) ?_
                refine JL_q (wants_none rfl) rfl (ex_assign rfl) ?_
                refine JL_nil ?_
                refine N_then ?_
                refine J_seq ?_
                refine J_region ?_
                refine JL_q (wants_none rfl) rfl (ex_move rfl) ?_
                refine JL_q (wants_none rfl) rfl (ex_move rfl) ?_
                refine JL_q (wants_none rfl) rfl (ex_move rfl) ?_
                refine JL_q (wants_none rfl) rfl (ex_assign rfl) ?_
                refine JL_q (wants_none rfl) rfl (ex_assign rfl) ?_
                refine JL_q (wants_none rfl) rfl (ex_assign rfl) ?_
                refine JL_nil ?_
                refine N_then ?_
                refine J_ret ?_
                exact N_ret3 rfl (rv_tmp rfl) (rv_tmp rfl) (rv_tmp rfl) (fun w hh => ⟨(v240, v236, (g10_2 ++ (((x232_0 : Value).ownBlock.toList ++ []) ++ (((x232_1 : Value).ownBlock.toList ++ []) ++ []))), b2), rfl, hh.sel [5, 6, 7] rfl⟩)
              · refine J_skip ?_
                refine N_then ?_
                refine J_region ?_
                refine JL_q (wants_none rfl) rfl (ex_move rfl) ?_
                refine JL_q (wants_none rfl) rfl (ex_fieldAddr fi_80_1 rfl rfl) ?_
                refine JL_q (wants_none rfl) rfl (ex_load_bx 4 ti_2 rfl rfl rfl) ?_
                refine JL_q (wants_none rfl) rfl (ex_add rfl rfl) ?_
                refine JL_q (wants_none rfl) rfl (ex_assign rfl) ?_
                refine JL_nil ?_
                refine N_block ?_
                refine N_then ?_
                refine J_region ?_
                refine JL_q (wants_none rfl) rfl (ex_move rfl) ?_
                refine JL_q (wants_none rfl) rfl (ex_add rfl rfl) ?_
                refine JL_q (wants_none rfl) rfl (ex_assign rfl) ?_
                refine JL_nil ?_
                exact N_next' (v240, v236, (g10_2 ++ (((x232_0 : Value).ownBlock.toList ++ []) ++ (((x232_1 : Value).ownBlock.toList ++ []) ++ []))), x258_0, x258_1) ⟨rfl, rfl, rfl, rfl, rfl, trivial⟩ [5, 6, 7, 8, 1, 2, 0] rfl rfl
          · refine JO_call rfl (wants_none rfl) rfl Try.call34 rfl (Ca_of0 fun w hh => c_impl_size_int64 _ w (fun _ hk => hk.elim) _ _ (hh.ow0 0 rfl) _ hr229) (fun _ => ?_)
            refine JD_bnd fun r260 hr261 => ?_
            refine JD_two (i := 5) (j := 13) (by kernel_rfl) ?_ ?_
            · refine JO_q rfl (wants_none rfl) rfl (ex_load_bx 2 ti_66 rfl rfl rfl) ?_
              refine JD_one (i := 13) (by kernel_rfl) ?_
              refine JO_call rfl (wants_none rfl) rfl Try.call44 rfl (Ca_self (fun _ => rfl) fun w hh => c_impl_runner_config _ w (fun _ hk => hk.elim) _ _ (hh.bx_pa 6 rfl (Grunner.rdmk (Rd.mk_int _ _ _) (Rd.mk_int _ _ _) (hh.rd0 3 rfl) (Rd.mk_int _ _ _) (hh.ow0 4 rfl) (hh.ow0 5 rfl)) rfl) _ hr261) (fun x262 => ?_)
              obtain ⟨x262_0, x262_1⟩ := x262
              refine JD_one (i := 14) (by kernel_rfl) ?_
              refine JO_q rfl (wants_none rfl) rfl (ex_buildN [(0, .int .i64 r228, [.int .i64 r228]), (1, .int .i64 (-1), [.int .i64 (-1)]), (2, .agg #[.int .i64 r260.State, x262_0, x262_1], [.int .i64 r260.State, x262_0, x262_1])] si_72 rfl (.cons fi_72_0 rfl rfl rfl (.cons fi_72_1 rfl rfl rfl (.cons fi_72_2 rfl rfl rfl .nil))) (fun w hh => ⟨cv_int, cv_int, (cv_aggs ⟨cv_int, (hh.cv_ow 0 rfl), (hh.cv_ow 1 rfl), trivial⟩), trivial⟩)) ?_
              refine JD_one (i := 15) (by kernel_rfl) ?_
              refine JO_ctx (fun w hh => hh.tokf 0 rfl rfl) (tokf_owns (i := 0) rfl) ?_
              refine JO_ctx (fun w hh => hh.tokf 2 rfl rfl) (tokf_owns (i := 2) rfl) ?_
              refine JO_st rfl (wants_none rfl) rfl (st_buildSlice_od (vs := [.agg #[.int .i64 r228, .int .i64 (-1), .int .i64 r260.State, x262_0, x262_1]]) (B := (((x262_0 : Value).ownBlock.toList ++ []) ++ (((x262_1 : Value).ownBlock.toList ++ []) ++ []))) ([(⟨r228, (-1), r260.State, r260.Left, r260.Right⟩ : Grecord)] : List Grecord) [1, 0] Try.underlying66 ti_72 zi_72 rfl rfl rfl rfl rfl (fun w hh => (dwv_cons (Grecord.dw (hh.dw 1 rfl) (hh.dw 0 rfl)) dwv_nil))) (fun _ hk => nomatch hk) (fun b263 => ?_)
              refine JD_bnd fun z264 hz265 => ?_
              refine JD_one (i := 16) (by kernel_rfl) ?_
              refine JO_st rfl (wants_none rfl) rfl (st_append_od 6 0 Try.underlying66 ti_72 zi_72 rfl bi_72 rfl rfl rfl rfl rfl rfl hz265) (sub_od 0 rfl) (fun v266 => ?_)
              refine JD_take (i := 17) hp193 rfl (by kernel_rfl) (by kernel_rfl) (by kernel_rfl) (wants_none rfl) rfl (ex_nilCheck rfl) ?_
              refine JD_take (i := 18) hp193 rfl (by kernel_rfl) (by kernel_rfl) (by kernel_rfl) (wants_none rfl) rfl (ex_fieldAddr fi_70_0 rfl rfl) ?_
              refine JD_take (i := 19) hp193 rfl (by kernel_rfl) (by kernel_rfl) (by kernel_rfl) (wants_none rfl) rfl (ex_fieldAddr fi_68_1 rfl rfl) ?_
              refine JD_one (i := 20) (by kernel_rfl) ?_
              refine JO_sk rfl (wants_none rfl) (sk_store_bx' 7 ti_66 rfl rfl (fun w hh => (hh.cv_od 6 rfl)) rfl rfl rfl rfl) (sub_bx 1 rfl) ?_
              refine JD_done (by kernel_rfl) ?_
              refine N_block ?_
              refine N_then ?_
              refine J_region ?_
              refine JL_q (wants_none rfl) rfl (ex_move rfl) ?_
              refine JL_q (wants_none rfl) rfl (ex_move rfl) ?_
              refine JL_q (wants_none rfl) rfl (ex_nilCheck rfl) ?_
              refine JL_q (wants_none rfl) rfl (ex_fieldAddr fi_70_0 rfl rfl) ?_
              refine JL_q (wants_none rfl) rfl (ex_fieldAddr fi_68_0 rfl rfl) ?_
              refine JL_q (wants_none rfl) rfl (ex_load_bx 7 ti_33 rfl rfl rfl) ?_
              refine JL_q (wants_none rfl) rfl (ex_move rfl) ?_
              refine JL_st (wants_none rfl) rfl (st_buildSlice (vs := [.int .i64 s9.2.2.2.2.2.2.2.1]) ([s9.2.2.2.2.2.2.2.1] : List Int) Try.underlying33 ti_2 zi_2 rfl rfl rfl (fun w hh => ⟨(Rd.mk_int _ _ _), trivial⟩)) (fun b267 => ?_)
              refine JL_bnd fun z268 hz269 => ?_
              refine JL_st (wants_none rfl) rfl (st_append 6 Try.underlying33 ti_2 zi_2 rfl bi_2 rfl rfl rfl rfl (fun w hh => hh.src_ow 0 rfl) hz269) (fun v270 => ?_)
              refine JL_q (wants_none rfl) rfl (ex_nilCheck rfl) ?_
              refine JL_q (wants_none rfl) rfl (ex_fieldAddr fi_70_0 rfl rfl) ?_
              refine JL_q (wants_none rfl) rfl (ex_fieldAddr fi_68_0 rfl rfl) ?_
              refine JL_sk (wants_none rfl) (sk_store_bx' 8 ti_33 rfl rfl (fun w hh => (hh.cv_ow 6 rfl)) rfl rfl rfl rfl) ?_
              refine JL_nil ?_
              refine N_inl0 (.inr rfl) hK11 rfl ?_
              refine JL_nil ?_
              refine N_then ?_
              refine J_seq ?_
              refine J_cut' (S' := Unit) (G' := Unit) (fun _ _ => [(2, .int .i64 p1), (3, .iface 63 (.pointer (some ⟨b2, 0, none⟩))), (11, .pointer (some ⟨x8_3, 0, none⟩)), (12, .int .i64 s9.2.2.2.2.2.2.2.1), (13, .int .i64 s9.2.2.2.2.2.2.2.2)]) (fun _ _ => [.ow 2 v270 z268, .od 72 v266 z264 (g10_2 ++ (((x262_0 : Value).ownBlock.toList ++ []) ++ (((x262_1 : Value).ownBlock.toList ++ []) ++ []))), .bx b2 70 [v270, v266, .int .i64 s9.2.2.2.2.2.2.2.1, .int .i64 s9.2.2.2.1], .rd x8_0 r6.2.2.1, .ow 2 g10_3 s9.2.2.2.2.2.1, .ow 2 g10_4 s9.2.2.2.2.2.2.1, .bx x8_3 112 [.int .i64 r6.1, .int .i64 r6.2.1, x8_0, .int .i64 s9.2.2.2.2.1, g10_3, g10_4]]) ?_ (fun s271 g272 => ?_)
              · refine J_seq ?_
                refine J_region ?_
                refine JL_q (wants_none rfl) rfl (ex_move rfl) ?_
                refine JL_q (wants_none rfl) rfl (ex_move rfl) ?_
                refine JL_q (wants_none rfl) rfl (ex_eql rfl rfl) ?_
                refine JL_q (wants_none rfl) rfl (ex_move rfl) ?_
                refine JL_cond (fun h273 => ?_) (fun h273 => ?_)
                · refine JL_passed rfl rfl rfl h273 ?_
                  refine JL_passed rfl rfl rfl h273 ?_
                  refine JL_q (wants_none rfl) rfl (ex_pick_true rfl h273 rfl) ?_
                  refine JL_nil ?_
                  refine N_then ?_
                  refine J_if_true rfl rfl ?_
                  refine J_seq ?_
                  refine J_region ?_
                  refine JL_q (wants_none rfl) rfl (ex_move rfl) ?_
                  refine JL_q (wants_none rfl) rfl (ex_move rfl) ?_
                  refine JL_bnd fun r274 hr275 => ?_
                  refine JL_call (wants_none rfl) rfl Try.call51 rfl (Ca_of0 fun w hh => c_impl_runner_halts _ w (fun _ hk => hk.elim) _ _ (hh.bx_pa 12 rfl (Grunner.rdmk (Rd.mk_int _ _ _) (Rd.mk_int _ _ _) (hh.rd0 9 rfl) (Rd.mk_int _ _ _) (hh.ow0 10 rfl) (hh.ow0 11 rfl)) rfl) _ hr275) (fun _ => ?_)
                  refine JL_q (wants_none rfl) rfl (ex_assign rfl) ?_
                  refine JL_q (wants_none rfl) rfl (ex_assign rfl) ?_
                  refine JL_q (wants_none rfl) rfl (ex_assign rfl) ?_
                  refine JL_nil ?_
                  refine N_then ?_
                  refine J_ret ?_
                  refine N_mid_ret ?_
                  refine N_then_ret ?_
                  refine N_block_ret ?_
                  refine N_then_ret ?_
                  refine N_round_reti ?_
                  refine N_inl3 hK3 rfl (rv_tmp rfl) (rv_tmp rfl) (rv_tmp rfl) ?_
                  refine JL_q (wants_none rfl) rfl (ex_move rfl) ?_
                  refine JL_q (wants_none rfl) rfl (ex_extract rfl rfl) ?_
                  refine JL_q (wants_none rfl) rfl (ex_extract rfl rfl) ?_
                  refine JL_q (wants_none rfl) rfl (ex_extract rfl rfl) ?_
                  refine JL_q (wants_none rfl) rfl (ex_assign rfl) ?_
                  refine JL_q (wants_none rfl) rfl (ex_assign rfl) ?_
                  refine JL_q (wants_none rfl) rfl (ex_assign rfl) ?_
                  refine JL_nil ?_
                  refine N_then ?_
                  refine J_seq ?_
                  refine J_region ?_
                  refine JL_q (wants_none rfl) rfl (ex_move rfl) ?_
                  refine JL_q (wants_none rfl) rfl (ex_move rfl) ?_
                  refine JL_q (wants_none rfl) rfl (ex_move rfl) ?_
                  refine JL_q (wants_none rfl) rfl (ex_assign rfl) ?_
                  refine JL_q (wants_none rfl) rfl (ex_assign rfl) ?_
                  refine JL_q (wants_none rfl) rfl (ex_assign rfl) ?_
                  refine JL_nil ?_
                  refine N_then ?_
                  refine J_ret ?_
                  exact N_ret3 rfl (rv_tmp rfl) (rv_tmp rfl) (rv_tmp rfl) (fun w hh => ⟨(v270, v266, (g10_2 ++ (((x262_0 : Value).ownBlock.toList ++ []) ++ (((x262_1 : Value).ownBlock.toList ++ []) ++ []))), b2), rfl, hh.sel [6, 7, 8] rfl⟩)
                · refine JL_q (wants_some rfl rfl rfl h273) rfl (ex_move rfl) ?_
                  refine JL_bnd fun r276 hr277 => ?_
                  refine JL_call (wants_some rfl rfl rfl h273) rfl Try.call51 rfl (Ca_of0 fun w hh => c_impl_runner_halts _ w (fun _ hk => hk.elim) _ _ (hh.bx_pa 12 rfl (Grunner.rdmk (Rd.mk_int _ _ _) (Rd.mk_int _ _ _) (hh.rd0 9 rfl) (Rd.mk_int _ _ _) (hh.ow0 10 rfl) (hh.ow0 11 rfl)) rfl) _ hr277) (fun _ => ?_)
                  refine JL_q (wants_none rfl) rfl (ex_pick_false rfl h273 rfl) ?_
                  refine JL_nil ?_
                  refine N_then ?_
                  refine J_if rfl (fun h278 => ?_) (fun h278 => ?_)
                  · refine J_seq ?_
                    refine J_region ?_
                    refine JL_q (wants_none rfl) rfl (ex_move rfl) ?_
                    refine JL_q (wants_none rfl) rfl (ex_move rfl) ?_
                    refine JL_bnd fun r279 hr280 => ?_
                    refine JL_call (wants_none rfl) rfl Try.call51 rfl (Ca_of0 fun w hh => c_impl_runner_halts _ w (fun _ hk => hk.elim) _ _ (hh.bx_pa 12 rfl (Grunner.rdmk (Rd.mk_int _ _ _) (Rd.mk_int _ _ _) (hh.rd0 9 rfl) (Rd.mk_int _ _ _) (hh.ow0 10 rfl) (hh.ow0 11 rfl)) rfl) _ hr280) (fun _ => ?_)
                    refine JL_q (wants_none rfl) rfl (ex_assign rfl) ?_
                    refine JL_q (wants_none rfl) rfl (ex_assign rfl) ?_
                    refine JL_q (wants_none rfl) rfl (ex_assign rfl) ?_
                    refine JL_nil ?_
                    refine N_then ?_
                    refine J_ret ?_
                    refine N_mid_ret ?_
                    refine N_then_ret ?_
                    refine N_block_ret ?_
                    refine N_then_ret ?_
                    refine N_round_reti ?_
                    refine N_inl3 hK3 rfl (rv_tmp rfl) (rv_tmp rfl) (rv_tmp rfl) ?_
                    refine JL_q (wants_none rfl) rfl (ex_move rfl) ?_
                    refine JL_q (wants_none rfl) rfl (ex_extract rfl rfl) ?_
                    refine JL_q (wants_none rfl) rfl (ex_extract rfl rfl) ?_
                    refine JL_q (wants_none rfl) rfl (ex_extract rfl rfl) ?_
                    refine JL_q (wants_none rfl) rfl (ex_assign rfl) ?_
                    refine JL_q (wants_none rfl) rfl (ex_assign rfl) ?_
                    refine JL_q (wants_none rfl) rfl (ex_assign rfl) ?_
                    refine JL_nil ?_
                    refine N_then ?_
                    refine J_seq ?_
                    refine J_region ?_
                    refine JL_q (wants_none rfl) rfl (ex_move rfl) ?_
                    refine JL_q (wants_none rfl) rfl (ex_move rfl) ?_
                    refine JL_q (wants_none rfl) rfl (ex_move rfl) ?_
                    refine JL_q (wants_none rfl) rfl (ex_assign rfl) ?_
                    refine JL_q (wants_none rfl) rfl (ex_assign rfl) ?_
                    refine JL_q (wants_none rfl) rfl (ex_assign rfl) ?_
                    refine JL_nil ?_
                    refine N_then ?_
                    refine J_ret ?_
                    exact N_ret3 rfl (rv_tmp rfl) (rv_tmp rfl) (rv_tmp rfl) (fun w hh => ⟨(v270, v266, (g10_2 ++ (((x262_0 : Value).ownBlock.toList ++ []) ++ (((x262_1 : Value).ownBlock.toList ++ []) ++ []))), b2), rfl, hh.sel [6, 7, 8] rfl⟩)
                  · refine J_skip ?_
                    exact N_meet' () ⟨rfl, rfl, rfl, rfl, rfl, trivial⟩ [6, 7, 8, 9, 10, 11, 12] rfl rfl
              · refine N_then ?_
                refine J_seq ?_
                refine J_region ?_
                refine JL_q (wants_none rfl) rfl (ex_move rfl) ?_
                refine JL_bnd fun r281 hr282 => ?_
                refine JL_call (wants_none rfl) rfl Try.call52 rfl (Ca_of0 fun w hh => c_impl_runner_rule _ w (fun _ hk => hk.elim) _ _ (hh.bx_pa 6 rfl (Grunner.rdmk (Rd.mk_int _ _ _) (Rd.mk_int _ _ _) (hh.rd0 3 rfl) (Rd.mk_int _ _ _) (hh.ow0 4 rfl) (hh.ow0 5 rfl)) rfl) _ hr282) (fun _ => ?_)
                refine JL_st (wants_none rfl) rfl (st_alloc zi_80 rfl) (fun b283 => ?_)
                refine JL_sk (wants_none rfl) (sk_store_bx' 0 ti_80 rfl rfl (fun w hh => (cv_aggs ⟨cv_int, cv_int, cv_int, trivial⟩)) rfl rfl rfl rfl) ?_
                refine JL_nil ?_
                refine N_then ?_
                refine J_seq ?_
                refine J_region ?_
                refine JL_q (wants_none rfl) rfl (ex_move rfl) ?_
                refine JL_q (wants_none rfl) rfl (ex_move rfl) ?_
                refine JL_q (wants_none rfl) rfl (ex_move rfl) ?_
                refine JL_q (wants_none rfl) rfl (ex_load_bx_agg 0 ti_80 rfl rfl rfl rfl) ?_
                refine JL_inlinem (wants_none rfl) rfl rfl rfl (me_63_104 _ _ _ _) Try.func104 rfl Try.ntmps104 rfl rfl (fun K_ hK284 => ?_)
                refine J_region ?_
                refine JL_st (wants_none rfl) rfl (st_box' rfl (fun w hh => (cv_aggs ⟨cv_int, cv_int, cv_int, trivial⟩))) (fun b285 => ?_)
                refine JL_nil ?_
                refine N_inl0 (.inr rfl) hK284 rfl ?_
                refine JL_nil ?_
                refine N_then ?_
                refine J_seq ?_
                refine J_seq ?_
                refine J_region ?_
                refine JL_q (wants_none rfl) rfl (ex_move rfl) ?_
                refine JL_bnd fun r286 hr287 => ?_
                refine JL_callT (wants_none rfl) rfl Try.call53 rfl (CaT_of [8, 6, 7] [0, 1, 2, 3, 4, 5] rfl rfl (fun _ => rfl) fun w hh => c_impl_runner_step w x8_3 (⟨r6.1, r6.2.1, r6.2.2.1, s9.2.2.2.2.1, s9.2.2.2.2.2.1, s9.2.2.2.2.2.2.1⟩ : Grunner) x8_0 g10_3 g10_4 _ rfl (hh.handed [8, 6, 7] rfl rfl rfl rfl) (hh.apart [8, 6, 7] rfl (hh.rd 5 rfl)) _ hr287) (fun x288 => ?_)
                obtain ⟨x288_0, x288_1⟩ := x288
                refine JL_q (wants_none rfl) rfl (ex_not rfl) ?_
                refine JL_nil ?_
                refine N_then ?_
                refine J_if rfl (fun h289 => ?_) (fun h289 => ?_)
                · refine J_seq ?_
                  refine J_region ?_
                  refine JL_q (wants_none rfl) rfl (ex_assign rfl) ?_
                  refine JL_q (wants_none rfl) rfl (ex_assign rfl) ?_
                  refine JL_q (wants_none rfl) rfl (ex_assign rfl) ?_
                  refine JL_nil ?_
                  refine N_then ?_
                  refine J_ret ?_
                  refine N_then_ret ?_
                  refine N_block_ret ?_
                  refine N_then_ret ?_
                  refine N_round_reti ?_
                  refine N_inl3 hK3 rfl (rv_tmp rfl) (rv_tmp rfl) (rv_tmp rfl) ?_
                  refine JL_q (wants_none rfl) rfl (ex_move rfl) ?_
                  refine JL_q (wants_none rfl) rfl (ex_extract rfl rfl) ?_
                  refine JL_q (wants_none rfl) rfl (ex_extract rfl rfl) ?_
                  refine JL_q (wants_none rfl) rfl (ex_extract rfl rfl) ?_
                  refine JL_q (wants_none rfl) rfl (ex_assign rfl) ?_
                  refine JL_q (wants_none rfl) rfl (ex_assign rfl) ?_
                  refine JL_q (wants_none rfl) rfl (ex_assign rfl) ?_
                  refine JL_nil ?_
                  refine N_then ?_
                  refine J_seq ?_
                  refine J_region ?_
                  refine JL_q (wants_none rfl) rfl (ex_move rfl) ?_
                  refine JL_q (wants_none rfl) rfl (ex_move rfl) ?_
                  refine JL_q (wants_none rfl) rfl (ex_move rfl) ?_
                  refine JL_q (wants_none rfl) rfl (ex_assign rfl) ?_
                  refine JL_q (wants_none rfl) rfl (ex_assign rfl) ?_
                  refine JL_q (wants_none rfl) rfl (ex_assign rfl) ?_
                  refine JL_nil ?_
                  refine N_then ?_
                  refine J_ret ?_
                  exact N_ret3 rfl (rv_tmp rfl) (rv_tmp rfl) (rv_tmp rfl) (fun w hh => ⟨(v270, v266, (g10_2 ++ (((x262_0 : Value).ownBlock.toList ++ []) ++ (((x262_1 : Value).ownBlock.toList ++ []) ++ []))), b2), rfl, hh.sel [5, 6, 7] rfl⟩)
                · refine J_skip ?_
                  refine N_then ?_
                  refine J_region ?_
                  refine JL_q (wants_none rfl) rfl (ex_move rfl) ?_
                  refine JL_q (wants_none rfl) rfl (ex_fieldAddr fi_80_1 rfl rfl) ?_
                  refine JL_q (wants_none rfl) rfl (ex_load_bx 4 ti_2 rfl rfl rfl) ?_
                  refine JL_q (wants_none rfl) rfl (ex_add rfl rfl) ?_
                  refine JL_q (wants_none rfl) rfl (ex_assign rfl) ?_
                  refine JL_nil ?_
                  refine N_block ?_
                  refine N_then ?_
                  refine J_region ?_
                  refine JL_q (wants_none rfl) rfl (ex_move rfl) ?_
                  refine JL_q (wants_none rfl) rfl (ex_add rfl rfl) ?_
                  refine JL_q (wants_none rfl) rfl (ex_assign rfl) ?_
                  refine JL_nil ?_
                  exact N_next' (v270, v266, (g10_2 ++ (((x262_0 : Value).ownBlock.toList ++ []) ++ (((x262_1 : Value).ownBlock.toList ++ []) ++ []))), x288_0, x288_1) ⟨rfl, rfl, rfl, rfl, rfl, trivial⟩ [5, 6, 7, 8, 1, 2, 0] rfl rfl
            · refine JO_call rfl (wants_none rfl) rfl Try.call44 rfl (Ca_self (fun _ => rfl) fun w hh => c_impl_runner_config _ w (fun _ hk => hk.elim) _ _ (hh.bx_pa 6 rfl (Grunner.rdmk (Rd.mk_int _ _ _) (Rd.mk_int _ _ _) (hh.rd0 3 rfl) (Rd.mk_int _ _ _) (hh.ow0 4 rfl) (hh.ow0 5 rfl)) rfl) _ hr261) (fun x290 => ?_)
              obtain ⟨x290_0, x290_1⟩ := x290
              refine JD_two (i := 5) (j := 14) (by kernel_rfl) ?_ ?_
              · refine JO_q rfl (wants_none rfl) rfl (ex_load_bx 4 ti_66 rfl rfl rfl) ?_
                refine JD_one (i := 14) (by kernel_rfl) ?_
                refine JO_q rfl (wants_none rfl) rfl (ex_buildN [(0, .int .i64 r228, [.int .i64 r228]), (1, .int .i64 (-1), [.int .i64 (-1)]), (2, .agg #[.int .i64 r260.State, x290_0, x290_1], [.int .i64 r260.State, x290_0, x290_1])] si_72 rfl (.cons fi_72_0 rfl rfl rfl (.cons fi_72_1 rfl rfl rfl (.cons fi_72_2 rfl rfl rfl .nil))) (fun w hh => ⟨cv_int, cv_int, (cv_aggs ⟨cv_int, (hh.cv_ow 0 rfl), (hh.cv_ow 1 rfl), trivial⟩), trivial⟩)) ?_
                refine JD_one (i := 15) (by kernel_rfl) ?_
                refine JO_ctx (fun w hh => hh.tokf 0 rfl rfl) (tokf_owns (i := 0) rfl) ?_
                refine JO_ctx (fun w hh => hh.tokf 2 rfl rfl) (tokf_owns (i := 2) rfl) ?_
                refine JO_st rfl (wants_none rfl) rfl (st_buildSlice_od (vs := [.agg #[.int .i64 r228, .int .i64 (-1), .int .i64 r260.State, x290_0, x290_1]]) (B := (((x290_0 : Value).ownBlock.toList ++ []) ++ (((x290_1 : Value).ownBlock.toList ++ []) ++ []))) ([(⟨r228, (-1), r260.State, r260.Left, r260.Right⟩ : Grecord)] : List Grecord) [1, 0] Try.underlying66 ti_72 zi_72 rfl rfl rfl rfl rfl (fun w hh => (dwv_cons (Grecord.dw (hh.dw 1 rfl) (hh.dw 0 rfl)) dwv_nil))) (fun _ hk => nomatch hk) (fun b291 => ?_)
                refine JD_bnd fun z292 hz293 => ?_
                refine JD_one (i := 16) (by kernel_rfl) ?_
                refine JO_st rfl (wants_none rfl) rfl (st_append_od 6 0 Try.underlying66 ti_72 zi_72 rfl bi_72 rfl rfl rfl rfl rfl rfl hz293) (sub_od 0 rfl) (fun v294 => ?_)
                refine JD_take (i := 17) hp193 rfl (by kernel_rfl) (by kernel_rfl) (by kernel_rfl) (wants_none rfl) rfl (ex_nilCheck rfl) ?_
                refine JD_take (i := 18) hp193 rfl (by kernel_rfl) (by kernel_rfl) (by kernel_rfl) (wants_none rfl) rfl (ex_fieldAddr fi_70_0 rfl rfl) ?_
                refine JD_take (i := 19) hp193 rfl (by kernel_rfl) (by kernel_rfl) (by kernel_rfl) (wants_none rfl) rfl (ex_fieldAddr fi_68_1 rfl rfl) ?_
                refine JD_one (i := 20) (by kernel_rfl) ?_
                refine JO_sk rfl (wants_none rfl) (sk_store_bx' 7 ti_66 rfl rfl (fun w hh => (hh.cv_od 6 rfl)) rfl rfl rfl rfl) (sub_bx 1 rfl) ?_
                refine JD_done (by kernel_rfl) ?_
                refine N_block ?_
                refine N_then ?_
                refine J_region ?_
                refine JL_q (wants_none rfl) rfl (ex_move rfl) ?_
                refine JL_q (wants_none rfl) rfl (ex_move rfl) ?_
                refine JL_q (wants_none rfl) rfl (ex_nilCheck rfl) ?_
                refine JL_q (wants_none rfl) rfl (ex_fieldAddr fi_70_0 rfl rfl) ?_
                refine JL_q (wants_none rfl) rfl (ex_fieldAddr fi_68_0 rfl rfl) ?_
                refine JL_q (wants_none rfl) rfl (ex_load_bx 7 ti_33 rfl rfl rfl) ?_
                refine JL_q (wants_none rfl) rfl (ex_move rfl) ?_
                refine JL_st (wants_none rfl) rfl (st_buildSlice (vs := [.int .i64 s9.2.2.2.2.2.2.2.1]) ([s9.2.2.2.2.2.2.2.1] : List Int) Try.underlying33 ti_2 zi_2 rfl rfl rfl (fun w hh => ⟨(Rd.mk_int _ _ _), trivial⟩)) (fun b295 => ?_)
                refine JL_bnd fun z296 hz297 => ?_
                refine JL_st (wants_none rfl) rfl (st_append 6 Try.underlying33 ti_2 zi_2 rfl bi_2 rfl rfl rfl rfl (fun w hh => hh.src_ow 0 rfl) hz297) (fun v298 => ?_)
                refine JL_q (wants_none rfl) rfl (ex_nilCheck rfl) ?_
                refine JL_q (wants_none rfl) rfl (ex_fieldAddr fi_70_0 rfl rfl) ?_
                refine JL_q (wants_none rfl) rfl (ex_fieldAddr fi_68_0 rfl rfl) ?_
                refine JL_sk (wants_none rfl) (sk_store_bx' 8 ti_33 rfl rfl (fun w hh => (hh.cv_ow 6 rfl)) rfl rfl rfl rfl) ?_
                refine JL_nil ?_
                refine N_inl0 (.inr rfl) hK11 rfl ?_
                refine JL_nil ?_
                refine N_then ?_
                refine J_seq ?_
                refine J_cut' (S' := Unit) (G' := Unit) (fun _ _ => [(2, .int .i64 p1), (3, .iface 63 (.pointer (some ⟨b2, 0, none⟩))), (11, .pointer (some ⟨x8_3, 0, none⟩)), (12, .int .i64 s9.2.2.2.2.2.2.2.1), (13, .int .i64 s9.2.2.2.2.2.2.2.2)]) (fun _ _ => [.ow 2 v298 z296, .od 72 v294 z292 (g10_2 ++ (((x290_0 : Value).ownBlock.toList ++ []) ++ (((x290_1 : Value).ownBlock.toList ++ []) ++ []))), .bx b2 70 [v298, v294, .int .i64 s9.2.2.2.2.2.2.2.1, .int .i64 s9.2.2.2.1], .rd x8_0 r6.2.2.1, .ow 2 g10_3 s9.2.2.2.2.2.1, .ow 2 g10_4 s9.2.2.2.2.2.2.1, .bx x8_3 112 [.int .i64 r6.1, .int .i64 r6.2.1, x8_0, .int .i64 s9.2.2.2.2.1, g10_3, g10_4]]) ?_ (fun s299 g300 => ?_)
                · refine J_seq ?_
                  refine J_region ?_
                  refine JL_q (wants_none rfl) rfl (ex_move rfl) ?_
                  refine JL_q (wants_none rfl) rfl (ex_move rfl) ?_
                  refine JL_q (wants_none rfl) rfl (ex_eql rfl rfl) ?_
                  refine JL_q (wants_none rfl) rfl (ex_move rfl) ?_
                  refine JL_cond (fun h301 => ?_) (fun h301 => ?_)
                  · refine JL_passed rfl rfl rfl h301 ?_
                    refine JL_passed rfl rfl rfl h301 ?_
                    refine JL_q (wants_none rfl) rfl (ex_pick_true rfl h301 rfl) ?_
                    refine JL_nil ?_
                    refine N_then ?_
                    refine J_if_true rfl rfl ?_
                    refine J_seq ?_
                    refine J_region ?_
                    refine JL_q (wants_none rfl) rfl (ex_move rfl) ?_
                    refine JL_q (wants_none rfl) rfl (ex_move rfl) ?_
                    refine JL_bnd fun r302 hr303 => ?_
                    refine JL_call (wants_none rfl) rfl Try.call51 rfl (Ca_of0 fun w hh => c_impl_runner_halts _ w (fun _ hk => hk.elim) _ _ (hh.bx_pa 12 rfl (Grunner.rdmk (Rd.mk_int _ _ _) (Rd.mk_int _ _ _) (hh.rd0 9 rfl) (Rd.mk_int _ _ _) (hh.ow0 10 rfl) (hh.ow0 11 rfl)) rfl) _ hr303) (fun _ => ?_)
                    refine JL_q (wants_none rfl) rfl (ex_assign rfl) ?_
                    refine JL_q (wants_none rfl) rfl (ex_assign rfl) ?_
                    refine JL_q (wants_none rfl) rfl (ex_assign rfl) ?_
                    refine JL_nil ?_
                    refine N_then ?_
                    refine J_ret ?_
                    refine N_mid_ret ?_
                    refine N_then_ret ?_
                    refine N_block_ret ?_
                    refine N_then_ret ?_
                    refine N_round_reti ?_
                    refine N_inl3 hK3 rfl (rv_tmp rfl) (rv_tmp rfl) (rv_tmp rfl) ?_
                    refine JL_q (wants_none rfl) rfl (ex_move rfl) ?_
                    refine JL_q (wants_none rfl) rfl (ex_extract rfl rfl) ?_
                    refine JL_q (wants_none rfl) rfl (ex_extract rfl rfl) ?_
                    refine JL_q (wants_none rfl) rfl (ex_extract rfl rfl) ?_
                    refine JL_q (wants_none rfl) rfl (ex_assign rfl) ?_
                    refine JL_q (wants_none rfl) rfl (ex_assign rfl) ?_
                    refine JL_q (wants_none rfl) rfl (ex_assign rfl) ?_
                    refine JL_nil ?_
                    refine N_then ?_
                    refine J_seq ?_
                    refine J_region ?_
                    refine JL_q (wants_none rfl) rfl (ex_move rfl) ?_
                    refine JL_q (wants_none rfl) rfl (ex_move rfl) ?_
                    refine JL_q (wants_none rfl) rfl (ex_move rfl) ?_
                    refine JL_q (wants_none rfl) rfl (ex_assign rfl) ?_
                    refine JL_q (wants_none rfl) rfl (ex_assign rfl) ?_
                    refine JL_q (wants_none rfl) rfl (ex_assign rfl) ?_
                    refine JL_nil ?_
                    refine N_then ?_
                    refine J_ret ?_
                    exact N_ret3 rfl (rv_tmp rfl) (rv_tmp rfl) (rv_tmp rfl) (fun w hh => ⟨(v298, v294, (g10_2 ++ (((x290_0 : Value).ownBlock.toList ++ []) ++ (((x290_1 : Value).ownBlock.toList ++ []) ++ []))), b2), rfl, hh.sel [6, 7, 8] rfl⟩)
                  · refine JL_q (wants_some rfl rfl rfl h301) rfl (ex_move rfl) ?_
                    refine JL_bnd fun r304 hr305 => ?_
                    refine JL_call (wants_some rfl rfl rfl h301) rfl Try.call51 rfl (Ca_of0 fun w hh => c_impl_runner_halts _ w (fun _ hk => hk.elim) _ _ (hh.bx_pa 12 rfl (Grunner.rdmk (Rd.mk_int _ _ _) (Rd.mk_int _ _ _) (hh.rd0 9 rfl) (Rd.mk_int _ _ _) (hh.ow0 10 rfl) (hh.ow0 11 rfl)) rfl) _ hr305) (fun _ => ?_)
                    refine JL_q (wants_none rfl) rfl (ex_pick_false rfl h301 rfl) ?_
                    refine JL_nil ?_
                    refine N_then ?_
                    refine J_if rfl (fun h306 => ?_) (fun h306 => ?_)
                    · refine J_seq ?_
                      refine J_region ?_
                      refine JL_q (wants_none rfl) rfl (ex_move rfl) ?_
                      refine JL_q (wants_none rfl) rfl (ex_move rfl) ?_
                      refine JL_bnd fun r307 hr308 => ?_
                      refine JL_call (wants_none rfl) rfl Try.call51 rfl (Ca_of0 fun w hh => c_impl_runner_halts _ w (fun _ hk => hk.elim) _ _ (hh.bx_pa 12 rfl (Grunner.rdmk (Rd.mk_int _ _ _) (Rd.mk_int _ _ _) (hh.rd0 9 rfl) (Rd.mk_int _ _ _) (hh.ow0 10 rfl) (hh.ow0 11 rfl)) rfl) _ hr308) (fun _ => ?_)
                      refine JL_q (wants_none rfl) rfl (ex_assign rfl) ?_
                      refine JL_q (wants_none rfl) rfl (ex_assign rfl) ?_
                      refine JL_q (wants_none rfl) rfl (ex_assign rfl) ?_
                      refine JL_nil ?_
                      refine N_then ?_
                      refine J_ret ?_
                      refine N_mid_ret ?_
                      refine N_then_ret ?_
                      refine N_block_ret ?_
                      refine N_then_ret ?_
                      refine N_round_reti ?_
                      refine N_inl3 hK3 rfl (rv_tmp rfl) (rv_tmp rfl) (rv_tmp rfl) ?_
                      refine JL_q (wants_none rfl) rfl (ex_move rfl) ?_
                      refine JL_q (wants_none rfl) rfl (ex_extract rfl rfl) ?_
                      refine JL_q (wants_none rfl) rfl (ex_extract rfl rfl) ?_
                      refine JL_q (wants_none rfl) rfl (ex_extract rfl rfl) ?_
                      refine JL_q (wants_none rfl) rfl (ex_assign rfl) ?_
                      refine JL_q (wants_none rfl) rfl (ex_assign rfl) ?_
                      refine JL_q (wants_none rfl) rfl (ex_assign rfl) ?_
                      refine JL_nil ?_
                      refine N_then ?_
                      refine J_seq ?_
                      refine J_region ?_
                      refine JL_q (wants_none rfl) rfl (ex_move rfl) ?_
                      refine JL_q (wants_none rfl) rfl (ex_move rfl) ?_
                      refine JL_q (wants_none rfl) rfl (ex_move rfl) ?_
                      refine JL_q (wants_none rfl) rfl (ex_assign rfl) ?_
                      refine JL_q (wants_none rfl) rfl (ex_assign rfl) ?_
                      refine JL_q (wants_none rfl) rfl (ex_assign rfl) ?_
                      refine JL_nil ?_
                      refine N_then ?_
                      refine J_ret ?_
                      exact N_ret3 rfl (rv_tmp rfl) (rv_tmp rfl) (rv_tmp rfl) (fun w hh => ⟨(v298, v294, (g10_2 ++ (((x290_0 : Value).ownBlock.toList ++ []) ++ (((x290_1 : Value).ownBlock.toList ++ []) ++ []))), b2), rfl, hh.sel [6, 7, 8] rfl⟩)
                    · refine J_skip ?_
                      exact N_meet' () ⟨rfl, rfl, rfl, rfl, rfl, trivial⟩ [6, 7, 8, 9, 10, 11, 12] rfl rfl
                · refine N_then ?_
                  refine J_seq ?_
                  refine J_region ?_
                  refine JL_q (wants_none rfl) rfl (ex_move rfl) ?_
                  refine JL_bnd fun r309 hr310 => ?_
                  refine JL_call (wants_none rfl) rfl Try.call52 rfl (Ca_of0 fun w hh => c_impl_runner_rule _ w (fun _ hk => hk.elim) _ _ (hh.bx_pa 6 rfl (Grunner.rdmk (Rd.mk_int _ _ _) (Rd.mk_int _ _ _) (hh.rd0 3 rfl) (Rd.mk_int _ _ _) (hh.ow0 4 rfl) (hh.ow0 5 rfl)) rfl) _ hr310) (fun _ => ?_)
                  refine JL_st (wants_none rfl) rfl (st_alloc zi_80 rfl) (fun b311 => ?_)
                  refine JL_sk (wants_none rfl) (sk_store_bx' 0 ti_80 rfl rfl (fun w hh => (cv_aggs ⟨cv_int, cv_int, cv_int, trivial⟩)) rfl rfl rfl rfl) ?_
                  refine JL_nil ?_
                  refine N_then ?_
                  refine J_seq ?_
                  refine J_region ?_
                  refine JL_q (wants_none rfl) rfl (ex_move rfl) ?_
                  refine JL_q (wants_none rfl) rfl (ex_move rfl) ?_
                  refine JL_q (wants_none rfl) rfl (ex_move rfl) ?_
                  refine JL_q (wants_none rfl) rfl (ex_load_bx_agg 0 ti_80 rfl rfl rfl rfl) ?_
                  refine JL_inlinem (wants_none rfl) rfl rfl rfl (me_63_104 _ _ _ _) Try.func104 rfl Try.ntmps104 rfl rfl (fun K_ hK312 => ?_)
                  refine J_region ?_
                  refine JL_st (wants_none rfl) rfl (st_box' rfl (fun w hh => (cv_aggs ⟨cv_int, cv_int, cv_int, trivial⟩))) (fun b313 => ?_)
                  refine JL_nil ?_
                  refine N_inl0 (.inr rfl) hK312 rfl ?_
                  refine JL_nil ?_
                  refine N_then ?_
                  refine J_seq ?_
                  refine J_seq ?_
                  refine J_region ?_
                  refine JL_q (wants_none rfl) rfl (ex_move rfl) ?_
                  refine JL_bnd fun r314 hr315 => ?_
                  refine JL_callT (wants_none rfl) rfl Try.call53 rfl (CaT_of [8, 6, 7] [0, 1, 2, 3, 4, 5] rfl rfl (fun _ => rfl) fun w hh => c_impl_runner_step w x8_3 (⟨r6.1, r6.2.1, r6.2.2.1, s9.2.2.2.2.1, s9.2.2.2.2.2.1, s9.2.2.2.2.2.2.1⟩ : Grunner) x8_0 g10_3 g10_4 _ rfl (hh.handed [8, 6, 7] rfl rfl rfl rfl) (hh.apart [8, 6, 7] rfl (hh.rd 5 rfl)) _ hr315) (fun x316 => ?_)
                  obtain ⟨x316_0, x316_1⟩ := x316
                  refine JL_q (wants_none rfl) rfl (ex_not rfl) ?_
                  refine JL_nil ?_
                  refine N_then ?_
                  refine J_if rfl (fun h317 => ?_) (fun h317 => ?_)
                  · refine J_seq ?_
                    refine J_region ?_
                    refine JL_q (wants_none rfl) rfl (ex_assign rfl) ?_
                    refine JL_q (wants_none rfl) rfl (ex_assign rfl) ?_
                    refine JL_q (wants_none rfl) rfl (ex_assign rfl) ?_
                    refine JL_nil ?_
                    refine N_then ?_
                    refine J_ret ?_
                    refine N_then_ret ?_
                    refine N_block_ret ?_
                    refine N_then_ret ?_
                    refine N_round_reti ?_
                    refine N_inl3 hK3 rfl (rv_tmp rfl) (rv_tmp rfl) (rv_tmp rfl) ?_
                    refine JL_q (wants_none rfl) rfl (ex_move rfl) ?_
                    refine JL_q (wants_none rfl) rfl (ex_extract rfl rfl) ?_
                    refine JL_q (wants_none rfl) rfl (ex_extract rfl rfl) ?_
                    refine JL_q (wants_none rfl) rfl (ex_extract rfl rfl) ?_
                    refine JL_q (wants_none rfl) rfl (ex_assign rfl) ?_
                    refine JL_q (wants_none rfl) rfl (ex_assign rfl) ?_
                    refine JL_q (wants_none rfl) rfl (ex_assign rfl) ?_
                    refine JL_nil ?_
                    refine N_then ?_
                    refine J_seq ?_
                    refine J_region ?_
                    refine JL_q (wants_none rfl) rfl (ex_move rfl) ?_
                    refine JL_q (wants_none rfl) rfl (ex_move rfl) ?_
                    refine JL_q (wants_none rfl) rfl (ex_move rfl) ?_
                    refine JL_q (wants_none rfl) rfl (ex_assign rfl) ?_
                    refine JL_q (wants_none rfl) rfl (ex_assign rfl) ?_
                    refine JL_q (wants_none rfl) rfl (ex_assign rfl) ?_
                    refine JL_nil ?_
                    refine N_then ?_
                    refine J_ret ?_
                    exact N_ret3 rfl (rv_tmp rfl) (rv_tmp rfl) (rv_tmp rfl) (fun w hh => ⟨(v298, v294, (g10_2 ++ (((x290_0 : Value).ownBlock.toList ++ []) ++ (((x290_1 : Value).ownBlock.toList ++ []) ++ []))), b2), rfl, hh.sel [5, 6, 7] rfl⟩)
                  · refine J_skip ?_
                    refine N_then ?_
                    refine J_region ?_
                    refine JL_q (wants_none rfl) rfl (ex_move rfl) ?_
                    refine JL_q (wants_none rfl) rfl (ex_fieldAddr fi_80_1 rfl rfl) ?_
                    refine JL_q (wants_none rfl) rfl (ex_load_bx 4 ti_2 rfl rfl rfl) ?_
                    refine JL_q (wants_none rfl) rfl (ex_add rfl rfl) ?_
                    refine JL_q (wants_none rfl) rfl (ex_assign rfl) ?_
                    refine JL_nil ?_
                    refine N_block ?_
                    refine N_then ?_
                    refine J_region ?_
                    refine JL_q (wants_none rfl) rfl (ex_move rfl) ?_
                    refine JL_q (wants_none rfl) rfl (ex_add rfl rfl) ?_
                    refine JL_q (wants_none rfl) rfl (ex_assign rfl) ?_
                    refine JL_nil ?_
                    exact N_next' (v298, v294, (g10_2 ++ (((x290_0 : Value).ownBlock.toList ++ []) ++ (((x290_1 : Value).ownBlock.toList ++ []) ++ []))), x316_0, x316_1) ⟨rfl, rfl, rfl, rfl, rfl, trivial⟩ [5, 6, 7, 8, 1, 2, 0] rfl rfl
              · refine JO_q rfl (wants_none rfl) rfl (ex_buildN [(0, .int .i64 r228, [.int .i64 r228]), (1, .int .i64 (-1), [.int .i64 (-1)]), (2, .agg #[.int .i64 r260.State, x290_0, x290_1], [.int .i64 r260.State, x290_0, x290_1])] si_72 rfl (.cons fi_72_0 rfl rfl rfl (.cons fi_72_1 rfl rfl rfl (.cons fi_72_2 rfl rfl rfl .nil))) (fun w hh => ⟨cv_int, cv_int, (cv_aggs ⟨cv_int, (hh.cv_ow 0 rfl), (hh.cv_ow 1 rfl), trivial⟩), trivial⟩)) ?_
                refine JD_two (i := 5) (j := 15) (by kernel_rfl) ?_ ?_
                · refine JO_q rfl (wants_none rfl) rfl (ex_load_bx 4 ti_66 rfl rfl rfl) ?_
                  refine JD_one (i := 15) (by kernel_rfl) ?_
                  refine JO_ctx (fun w hh => hh.tokf 0 rfl rfl) (tokf_owns (i := 0) rfl) ?_
                  refine JO_ctx (fun w hh => hh.tokf 2 rfl rfl) (tokf_owns (i := 2) rfl) ?_
                  refine JO_st rfl (wants_none rfl) rfl (st_buildSlice_od (vs := [.agg #[.int .i64 r228, .int .i64 (-1), .int .i64 r260.State, x290_0, x290_1]]) (B := (((x290_0 : Value).ownBlock.toList ++ []) ++ (((x290_1 : Value).ownBlock.toList ++ []) ++ []))) ([(⟨r228, (-1), r260.State, r260.Left, r260.Right⟩ : Grecord)] : List Grecord) [1, 0] Try.underlying66 ti_72 zi_72 rfl rfl rfl rfl rfl (fun w hh => (dwv_cons (Grecord.dw (hh.dw 1 rfl) (hh.dw 0 rfl)) dwv_nil))) (fun _ hk => nomatch hk) (fun b318 => ?_)
                  refine JD_bnd fun z319 hz320 => ?_
                  refine JD_one (i := 16) (by kernel_rfl) ?_
                  refine JO_st rfl (wants_none rfl) rfl (st_append_od 6 0 Try.underlying66 ti_72 zi_72 rfl bi_72 rfl rfl rfl rfl rfl rfl hz320) (sub_od 0 rfl) (fun v321 => ?_)
                  refine JD_take (i := 17) hp193 rfl (by kernel_rfl) (by kernel_rfl) (by kernel_rfl) (wants_none rfl) rfl (ex_nilCheck rfl) ?_
                  refine JD_take (i := 18) hp193 rfl (by kernel_rfl) (by kernel_rfl) (by kernel_rfl) (wants_none rfl) rfl (ex_fieldAddr fi_70_0 rfl rfl) ?_
                  refine JD_take (i := 19) hp193 rfl (by kernel_rfl) (by kernel_rfl) (by kernel_rfl) (wants_none rfl) rfl (ex_fieldAddr fi_68_1 rfl rfl) ?_
                  refine JD_one (i := 20) (by kernel_rfl) ?_
                  refine JO_sk rfl (wants_none rfl) (sk_store_bx' 7 ti_66 rfl rfl (fun w hh => (hh.cv_od 6 rfl)) rfl rfl rfl rfl) (sub_bx 1 rfl) ?_
                  refine JD_done (by kernel_rfl) ?_
                  refine N_block ?_
                  refine N_then ?_
                  refine J_region ?_
                  refine JL_q (wants_none rfl) rfl (ex_move rfl) ?_
                  refine JL_q (wants_none rfl) rfl (ex_move rfl) ?_
                  refine JL_q (wants_none rfl) rfl (ex_nilCheck rfl) ?_
                  refine JL_q (wants_none rfl) rfl (ex_fieldAddr fi_70_0 rfl rfl) ?_
                  refine JL_q (wants_none rfl) rfl (ex_fieldAddr fi_68_0 rfl rfl) ?_
                  refine JL_q (wants_none rfl) rfl (ex_load_bx 7 ti_33 rfl rfl rfl) ?_
                  refine JL_q (wants_none rfl) rfl (ex_move rfl) ?_
                  refine JL_st (wants_none rfl) rfl (st_buildSlice (vs := [.int .i64 s9.2.2.2.2.2.2.2.1]) ([s9.2.2.2.2.2.2.2.1] : List Int) Try.underlying33 ti_2 zi_2 rfl rfl rfl (fun w hh => ⟨(Rd.mk_int _ _ _), trivial⟩)) (fun b322 => ?_)
                  refine JL_bnd fun z323 hz324 => ?_
                  refine JL_st (wants_none rfl) rfl (st_append 6 Try.underlying33 ti_2 zi_2 rfl bi_2 rfl rfl rfl rfl (fun w hh => hh.src_ow 0 rfl) hz324) (fun v325 => ?_)
                  refine JL_q (wants_none rfl) rfl (ex_nilCheck rfl) ?_
                  refine JL_q (wants_none rfl) rfl (ex_fieldAddr fi_70_0 rfl rfl) ?_
                  refine JL_q (wants_none rfl) rfl (ex_fieldAddr fi_68_0 rfl rfl) ?_
                  refine JL_sk (wants_none rfl) (sk_store_bx' 8 ti_33 rfl rfl (fun w hh => (hh.cv_ow 6 rfl)) rfl rfl rfl rfl) ?_
                  refine JL_nil ?_
                  refine N_inl0 (.inr rfl) hK11 rfl ?_
                  refine JL_nil ?_
                  refine N_then ?_
                  refine J_seq ?_
                  refine J_cut' (S' := Unit) (G' := Unit) (fun _ _ => [(2, .int .i64 p1), (3, .iface 63 (.pointer (some ⟨b2, 0, none⟩))), (11, .pointer (some ⟨x8_3, 0, none⟩)), (12, .int .i64 s9.2.2.2.2.2.2.2.1), (13, .int .i64 s9.2.2.2.2.2.2.2.2)]) (fun _ _ => [.ow 2 v325 z323, .od 72 v321 z319 (g10_2 ++ (((x290_0 : Value).ownBlock.toList ++ []) ++ (((x290_1 : Value).ownBlock.toList ++ []) ++ []))), .bx b2 70 [v325, v321, .int .i64 s9.2.2.2.2.2.2.2.1, .int .i64 s9.2.2.2.1], .rd x8_0 r6.2.2.1, .ow 2 g10_3 s9.2.2.2.2.2.1, .ow 2 g10_4 s9.2.2.2.2.2.2.1, .bx x8_3 112 [.int .i64 r6.1, .int .i64 r6.2.1, x8_0, .int .i64 s9.2.2.2.2.1, g10_3, g10_4]]) ?_ (fun s326 g327 => ?_)
                  · refine J_seq ?_
                    refine J_region ?_
                    refine JL_q (wants_none rfl) rfl (ex_move rfl) ?_
                    refine JL_q (wants_none rfl) rfl (ex_move rfl) ?_
                    refine JL_q (wants_none rfl) rfl (ex_eql rfl rfl) ?_
                    refine JL_q (wants_none rfl) rfl (ex_move rfl) ?_
                    refine JL_cond (fun h328 => ?_) (fun h328 => ?_)
                    · refine JL_passed rfl rfl rfl h328 ?_
                      refine JL_passed rfl rfl rfl h328 ?_
                      refine JL_q (wants_none rfl) rfl (ex_pick_true rfl h328 rfl) ?_
                      refine JL_nil ?_
                      refine N_then ?_
                      refine J_if_true rfl rfl ?_
                      refine J_seq ?_
                      refine J_region ?_
                      refine JL_q (wants_none rfl) rfl (ex_move rfl) ?_
                      refine JL_q (wants_none rfl) rfl (ex_move rfl) ?_
                      refine JL_bnd fun r329 hr330 => ?_
                      refine JL_call (wants_none rfl) rfl Try.call51 rfl (Ca_of0 fun w hh => c_impl_runner_halts _ w (fun _ hk => hk.elim) _ _ (hh.bx_pa 12 rfl (Grunner.rdmk (Rd.mk_int _ _ _) (Rd.mk_int _ _ _) (hh.rd0 9 rfl) (Rd.mk_int _ _ _) (hh.ow0 10 rfl) (hh.ow0 11 rfl)) rfl) _ hr330) (fun _ => ?_)
                      refine JL_q (wants_none rfl) rfl (ex_assign rfl) ?_
                      refine JL_q (wants_none rfl) rfl (ex_assign rfl) ?_
                      refine JL_q (wants_none rfl) rfl (ex_assign rfl) ?_
                      refine JL_nil ?_
                      refine N_then ?_
                      refine J_ret ?_
                      refine N_mid_ret ?_
                      refine N_then_ret ?_
                      refine N_block_ret ?_
                      refine N_then_ret ?_
                      refine N_round_reti ?_
                      refine N_inl3 hK3 rfl (rv_tmp rfl) (rv_tmp rfl) (rv_tmp rfl) ?_
                      refine JL_q (wants_none rfl) rfl (ex_move rfl) ?_
                      refine JL_q (wants_none rfl) rfl (ex_extract rfl rfl) ?_
                      refine JL_q (wants_none rfl) rfl (ex_extract rfl rfl) ?_
                      refine JL_q (wants_none rfl) rfl (ex_extract rfl rfl) ?_
                      refine JL_q (wants_none rfl) rfl (ex_assign rfl) ?_
                      refine JL_q (wants_none rfl) rfl (ex_assign rfl) ?_
                      refine JL_q (wants_none rfl) rfl (ex_assign rfl) ?_
                      refine JL_nil ?_
                      refine N_then ?_
                      refine J_seq ?_
                      refine J_region ?_
                      refine JL_q (wants_none rfl) rfl (ex_move rfl) ?_
                      refine JL_q (wants_none rfl) rfl (ex_move rfl) ?_
                      refine JL_q (wants_none rfl) rfl (ex_move rfl) ?_
                      refine JL_q (wants_none rfl) rfl (ex_assign rfl) ?_
                      refine JL_q (wants_none rfl) rfl (ex_assign rfl) ?_
                      refine JL_q (wants_none rfl) rfl (ex_assign rfl) ?_
                      refine JL_nil ?_
                      refine N_then ?_
                      refine J_ret ?_
                      exact N_ret3 rfl (rv_tmp rfl) (rv_tmp rfl) (rv_tmp rfl) (fun w hh => ⟨(v325, v321, (g10_2 ++ (((x290_0 : Value).ownBlock.toList ++ []) ++ (((x290_1 : Value).ownBlock.toList ++ []) ++ []))), b2), rfl, hh.sel [6, 7, 8] rfl⟩)
                    · refine JL_q (wants_some rfl rfl rfl h328) rfl (ex_move rfl) ?_
                      refine JL_bnd fun r331 hr332 => ?_
                      refine JL_call (wants_some rfl rfl rfl h328) rfl Try.call51 rfl (Ca_of0 fun w hh => c_impl_runner_halts _ w (fun _ hk => hk.elim) _ _ (hh.bx_pa 12 rfl (Grunner.rdmk (Rd.mk_int _ _ _) (Rd.mk_int _ _ _) (hh.rd0 9 rfl) (Rd.mk_int _ _ _) (hh.ow0 10 rfl) (hh.ow0 11 rfl)) rfl) _ hr332) (fun _ => ?_)
                      refine JL_q (wants_none rfl) rfl (ex_pick_false rfl h328 rfl) ?_
                      refine JL_nil ?_
                      refine N_then ?_
                      refine J_if rfl (fun h333 => ?_) (fun h333 => ?_)
                      · refine J_seq ?_
                        refine J_region ?_
                        refine JL_q (wants_none rfl) rfl (ex_move rfl) ?_
                        refine JL_q (wants_none rfl) rfl (ex_move rfl) ?_
                        refine JL_bnd fun r334 hr335 => ?_
                        refine JL_call (wants_none rfl) rfl Try.call51 rfl (Ca_of0 fun w hh => c_impl_runner_halts _ w (fun _ hk => hk.elim) _ _ (hh.bx_pa 12 rfl (Grunner.rdmk (Rd.mk_int _ _ _) (Rd.mk_int _ _ _) (hh.rd0 9 rfl) (Rd.mk_int _ _ _) (hh.ow0 10 rfl) (hh.ow0 11 rfl)) rfl) _ hr335) (fun _ => ?_)
                        refine JL_q (wants_none rfl) rfl (ex_assign rfl) ?_
                        refine JL_q (wants_none rfl) rfl (ex_assign rfl) ?_
                        refine JL_q (wants_none rfl) rfl (ex_assign rfl) ?_
                        refine JL_nil ?_
                        refine N_then ?_
                        refine J_ret ?_
                        refine N_mid_ret ?_
                        refine N_then_ret ?_
                        refine N_block_ret ?_
                        refine N_then_ret ?_
                        refine N_round_reti ?_
                        refine N_inl3 hK3 rfl (rv_tmp rfl) (rv_tmp rfl) (rv_tmp rfl) ?_
                        refine JL_q (wants_none rfl) rfl (ex_move rfl) ?_
                        refine JL_q (wants_none rfl) rfl (ex_extract rfl rfl) ?_
                        refine JL_q (wants_none rfl) rfl (ex_extract rfl rfl) ?_
                        refine JL_q (wants_none rfl) rfl (ex_extract rfl rfl) ?_
                        refine JL_q (wants_none rfl) rfl (ex_assign rfl) ?_
                        refine JL_q (wants_none rfl) rfl (ex_assign rfl) ?_
                        refine JL_q (wants_none rfl) rfl (ex_assign rfl) ?_
                        refine JL_nil ?_
                        refine N_then ?_
                        refine J_seq ?_
                        refine J_region ?_
                        refine JL_q (wants_none rfl) rfl (ex_move rfl) ?_
                        refine JL_q (wants_none rfl) rfl (ex_move rfl) ?_
                        refine JL_q (wants_none rfl) rfl (ex_move rfl) ?_
                        refine JL_q (wants_none rfl) rfl (ex_assign rfl) ?_
                        refine JL_q (wants_none rfl) rfl (ex_assign rfl) ?_
                        refine JL_q (wants_none rfl) rfl (ex_assign rfl) ?_
                        refine JL_nil ?_
                        refine N_then ?_
                        refine J_ret ?_
                        exact N_ret3 rfl (rv_tmp rfl) (rv_tmp rfl) (rv_tmp rfl) (fun w hh => ⟨(v325, v321, (g10_2 ++ (((x290_0 : Value).ownBlock.toList ++ []) ++ (((x290_1 : Value).ownBlock.toList ++ []) ++ []))), b2), rfl, hh.sel [6, 7, 8] rfl⟩)
                      · refine J_skip ?_
                        exact N_meet' () ⟨rfl, rfl, rfl, rfl, rfl, trivial⟩ [6, 7, 8, 9, 10, 11, 12] rfl rfl
                  · refine N_then ?_
                    refine J_seq ?_
                    refine J_region ?_
                    refine JL_q (wants_none rfl) rfl (ex_move rfl) ?_
                    refine JL_bnd fun r336 hr337 => ?_
                    refine JL_call (wants_none rfl) rfl Try.call52 rfl (Ca_of0 fun w hh => c_impl_runner_rule _ w (fun _ hk => hk.elim) _ _ (hh.bx_pa 6 rfl (Grunner.rdmk (Rd.mk_int _ _ _) (Rd.mk_int _ _ _) (hh.rd0 3 rfl) (Rd.mk_int _ _ _) (hh.ow0 4 rfl) (hh.ow0 5 rfl)) rfl) _ hr337) (fun _ => ?_)
                    refine JL_st (wants_none rfl) rfl (st_alloc zi_80 rfl) (fun b338 => ?_)
                    refine JL_sk (wants_none rfl) (sk_store_bx' 0 ti_80 rfl rfl (fun w hh => (cv_aggs ⟨cv_int, cv_int, cv_int, trivial⟩)) rfl rfl rfl rfl) ?_
                    refine JL_nil ?_
                    refine N_then ?_
                    refine J_seq ?_
                    refine J_region ?_
                    refine JL_q (wants_none rfl) rfl (ex_move rfl) ?_
                    refine JL_q (wants_none rfl) rfl (ex_move rfl) ?_
                    refine JL_q (wants_none rfl) rfl (ex_move rfl) ?_
                    refine JL_q (wants_none rfl) rfl (ex_load_bx_agg 0 ti_80 rfl rfl rfl rfl) ?_
                    refine JL_inlinem (wants_none rfl) rfl rfl rfl (me_63_104 _ _ _ _) Try.func104 rfl Try.ntmps104 rfl rfl (fun K_ hK339 => ?_)
                    refine J_region ?_
                    refine JL_st (wants_none rfl) rfl (st_box' rfl (fun w hh => (cv_aggs ⟨cv_int, cv_int, cv_int, trivial⟩))) (fun b340 => ?_)
                    refine JL_nil ?_
                    refine N_inl0 (.inr rfl) hK339 rfl ?_
                    refine JL_nil ?_
                    refine N_then ?_
                    refine J_seq ?_
                    refine J_seq ?_
                    refine J_region ?_
                    refine JL_q (wants_none rfl) rfl (ex_move rfl) ?_
                    refine JL_bnd fun r341 hr342 => ?_
                    refine JL_callT (wants_none rfl) rfl Try.call53 rfl (CaT_of [8, 6, 7] [0, 1, 2, 3, 4, 5] rfl rfl (fun _ => rfl) fun w hh => c_impl_runner_step w x8_3 (⟨r6.1, r6.2.1, r6.2.2.1, s9.2.2.2.2.1, s9.2.2.2.2.2.1, s9.2.2.2.2.2.2.1⟩ : Grunner) x8_0 g10_3 g10_4 _ rfl (hh.handed [8, 6, 7] rfl rfl rfl rfl) (hh.apart [8, 6, 7] rfl (hh.rd 5 rfl)) _ hr342) (fun x343 => ?_)
                    obtain ⟨x343_0, x343_1⟩ := x343
                    refine JL_q (wants_none rfl) rfl (ex_not rfl) ?_
                    refine JL_nil ?_
                    refine N_then ?_
                    refine J_if rfl (fun h344 => ?_) (fun h344 => ?_)
                    · refine J_seq ?_
                      refine J_region ?_
                      refine JL_q (wants_none rfl) rfl (ex_assign rfl) ?_
                      refine JL_q (wants_none rfl) rfl (ex_assign rfl) ?_
                      refine JL_q (wants_none rfl) rfl (ex_assign rfl) ?_
                      refine JL_nil ?_
                      refine N_then ?_
                      refine J_ret ?_
                      refine N_then_ret ?_
                      refine N_block_ret ?_
                      refine N_then_ret ?_
                      refine N_round_reti ?_
                      refine N_inl3 hK3 rfl (rv_tmp rfl) (rv_tmp rfl) (rv_tmp rfl) ?_
                      refine JL_q (wants_none rfl) rfl (ex_move rfl) ?_
                      refine JL_q (wants_none rfl) rfl (ex_extract rfl rfl) ?_
                      refine JL_q (wants_none rfl) rfl (ex_extract rfl rfl) ?_
                      refine JL_q (wants_none rfl) rfl (ex_extract rfl rfl) ?_
                      refine JL_q (wants_none rfl) rfl (ex_assign rfl) ?_
                      refine JL_q (wants_none rfl) rfl (ex_assign rfl) ?_
                      refine JL_q (wants_none rfl) rfl (ex_assign rfl) ?_
                      refine JL_nil ?_
                      refine N_then ?_
                      refine J_seq ?_
                      refine J_region ?_
                      refine JL_q (wants_none rfl) rfl (ex_move rfl) ?_
                      refine JL_q (wants_none rfl) rfl (ex_move rfl) ?_
                      refine JL_q (wants_none rfl) rfl (ex_move rfl) ?_
                      refine JL_q (wants_none rfl) rfl (ex_assign rfl) ?_
                      refine JL_q (wants_none rfl) rfl (ex_assign rfl) ?_
                      refine JL_q (wants_none rfl) rfl (ex_assign rfl) ?_
                      refine JL_nil ?_
                      refine N_then ?_
                      refine J_ret ?_
                      exact N_ret3 rfl (rv_tmp rfl) (rv_tmp rfl) (rv_tmp rfl) (fun w hh => ⟨(v325, v321, (g10_2 ++ (((x290_0 : Value).ownBlock.toList ++ []) ++ (((x290_1 : Value).ownBlock.toList ++ []) ++ []))), b2), rfl, hh.sel [5, 6, 7] rfl⟩)
                    · refine J_skip ?_
                      refine N_then ?_
                      refine J_region ?_
                      refine JL_q (wants_none rfl) rfl (ex_move rfl) ?_
                      refine JL_q (wants_none rfl) rfl (ex_fieldAddr fi_80_1 rfl rfl) ?_
                      refine JL_q (wants_none rfl) rfl (ex_load_bx 4 ti_2 rfl rfl rfl) ?_
                      refine JL_q (wants_none rfl) rfl (ex_add rfl rfl) ?_
                      refine JL_q (wants_none rfl) rfl (ex_assign rfl) ?_
                      refine JL_nil ?_
                      refine N_block ?_
                      refine N_then ?_
                      refine J_region ?_
                      refine JL_q (wants_none rfl) rfl (ex_move rfl) ?_
                      refine JL_q (wants_none rfl) rfl (ex_add rfl rfl) ?_
                      refine JL_q (wants_none rfl) rfl (ex_assign rfl) ?_
                      refine JL_nil ?_
                      exact N_next' (v325, v321, (g10_2 ++ (((x290_0 : Value).ownBlock.toList ++ []) ++ (((x290_1 : Value).ownBlock.toList ++ []) ++ []))), x343_0, x343_1) ⟨rfl, rfl, rfl, rfl, rfl, trivial⟩ [5, 6, 7, 8, 1, 2, 0] rfl rfl
                · refine JO_ctx (fun w hh => hh.tokf 0 rfl rfl) (tokf_owns (i := 0) rfl) ?_
                  refine JO_ctx (fun w hh => hh.tokf 2 rfl rfl) (tokf_owns (i := 2) rfl) ?_
                  refine JO_st rfl (wants_none rfl) rfl (st_buildSlice_od (vs := [.agg #[.int .i64 r228, .int .i64 (-1), .int .i64 r260.State, x290_0, x290_1]]) (B := (((x290_0 : Value).ownBlock.toList ++ []) ++ (((x290_1 : Value).ownBlock.toList ++ []) ++ []))) ([(⟨r228, (-1), r260.State, r260.Left, r260.Right⟩ : Grecord)] : List Grecord) [1, 0] Try.underlying66 ti_72 zi_72 rfl rfl rfl rfl rfl (fun w hh => (dwv_cons (Grecord.dw (hh.dw 1 rfl) (hh.dw 0 rfl)) dwv_nil))) (fun _ hk => nomatch hk) (fun b345 => ?_)
                  refine JD_one (i := 5) (by kernel_rfl) ?_
                  refine JO_q rfl (wants_none rfl) rfl (ex_load_bx 7 ti_66 rfl rfl rfl) ?_
                  refine JD_bnd fun z346 hz347 => ?_
                  refine JD_one (i := 16) (by kernel_rfl) ?_
                  refine JO_st rfl (wants_none rfl) rfl (st_append_od 6 0 Try.underlying66 ti_72 zi_72 rfl bi_72 rfl rfl rfl rfl rfl rfl hz347) (sub_od 0 rfl) (fun v348 => ?_)
                  refine JD_take (i := 17) hp193 rfl (by kernel_rfl) (by kernel_rfl) (by kernel_rfl) (wants_none rfl) rfl (ex_nilCheck rfl) ?_
                  refine JD_take (i := 18) hp193 rfl (by kernel_rfl) (by kernel_rfl) (by kernel_rfl) (wants_none rfl) rfl (ex_fieldAddr fi_70_0 rfl rfl) ?_
                  refine JD_take (i := 19) hp193 rfl (by kernel_rfl) (by kernel_rfl) (by kernel_rfl) (wants_none rfl) rfl (ex_fieldAddr fi_68_1 rfl rfl) ?_
                  refine JD_one (i := 20) (by kernel_rfl) ?_
                  refine JO_sk rfl (wants_none rfl) (sk_store_bx' 7 ti_66 rfl rfl (fun w hh => (hh.cv_od 6 rfl)) rfl rfl rfl rfl) (sub_bx 1 rfl) ?_
                  refine JD_done (by kernel_rfl) ?_
                  refine N_block ?_
                  refine N_then ?_
                  refine J_region ?_
                  refine JL_q (wants_none rfl) rfl (ex_move rfl) ?_
                  refine JL_q (wants_none rfl) rfl (ex_move rfl) ?_
                  refine JL_q (wants_none rfl) rfl (ex_nilCheck rfl) ?_
                  refine JL_q (wants_none rfl) rfl (ex_fieldAddr fi_70_0 rfl rfl) ?_
                  refine JL_q (wants_none rfl) rfl (ex_fieldAddr fi_68_0 rfl rfl) ?_
                  refine JL_q (wants_none rfl) rfl (ex_load_bx 7 ti_33 rfl rfl rfl) ?_
                  refine JL_q (wants_none rfl) rfl (ex_move rfl) ?_
                  refine JL_st (wants_none rfl) rfl (st_buildSlice (vs := [.int .i64 s9.2.2.2.2.2.2.2.1]) ([s9.2.2.2.2.2.2.2.1] : List Int) Try.underlying33 ti_2 zi_2 rfl rfl rfl (fun w hh => ⟨(Rd.mk_int _ _ _), trivial⟩)) (fun b349 => ?_)
                  refine JL_bnd fun z350 hz351 => ?_
                  refine JL_st (wants_none rfl) rfl (st_append 6 Try.underlying33 ti_2 zi_2 rfl bi_2 rfl rfl rfl rfl (fun w hh => hh.src_ow 0 rfl) hz351) (fun v352 => ?_)
                  refine JL_q (wants_none rfl) rfl (ex_nilCheck rfl) ?_
                  refine JL_q (wants_none rfl) rfl (ex_fieldAddr fi_70_0 rfl rfl) ?_
                  refine JL_q (wants_none rfl) rfl (ex_fieldAddr fi_68_0 rfl rfl) ?_
                  refine JL_sk (wants_none rfl) (sk_store_bx' 8 ti_33 rfl rfl (fun w hh => (hh.cv_ow 6 rfl)) rfl rfl rfl rfl) ?_
                  refine JL_nil ?_
                  refine N_inl0 (.inr rfl) hK11 rfl ?_
                  refine JL_nil ?_
                  refine N_then ?_
                  refine J_seq ?_
                  refine J_cut' (S' := Unit) (G' := Unit) (fun _ _ => [(2, .int .i64 p1), (3, .iface 63 (.pointer (some ⟨b2, 0, none⟩))), (11, .pointer (some ⟨x8_3, 0, none⟩)), (12, .int .i64 s9.2.2.2.2.2.2.2.1), (13, .int .i64 s9.2.2.2.2.2.2.2.2)]) (fun _ _ => [.ow 2 v352 z350, .od 72 v348 z346 (g10_2 ++ (((x290_0 : Value).ownBlock.toList ++ []) ++ (((x290_1 : Value).ownBlock.toList ++ []) ++ []))), .bx b2 70 [v352, v348, .int .i64 s9.2.2.2.2.2.2.2.1, .int .i64 s9.2.2.2.1], .rd x8_0 r6.2.2.1, .ow 2 g10_3 s9.2.2.2.2.2.1, .ow 2 g10_4 s9.2.2.2.2.2.2.1, .bx x8_3 112 [.int .i64 r6.1, .int .i64 r6.2.1, x8_0, .int .i64 s9.2.2.2.2.1, g10_3, g10_4]]) ?_ (fun s353 g354 => ?_)
                  · refine J_seq ?_
                    refine J_region ?_
                    refine JL_q (wants_none rfl) rfl (ex_move rfl) ?_
                    refine JL_q (wants_none rfl) rfl (ex_move rfl) ?_
                    refine JL_q (wants_none rfl) rfl (ex_eql rfl rfl) ?_
                    refine JL_q (wants_none rfl) rfl (ex_move rfl) ?_
                    refine JL_cond (fun h355 => ?_) (fun h355 => ?_)
                    · refine JL_passed rfl rfl rfl h355 ?_
                      refine JL_passed rfl rfl rfl h355 ?_
                      refine JL_q (wants_none rfl) rfl (ex_pick_true rfl h355 rfl) ?_
                      refine JL_nil ?_
                      refine N_then ?_
                      refine J_if_true rfl rfl ?_
                      refine J_seq ?_
                      refine J_region ?_
                      refine JL_q (wants_none rfl) rfl (ex_move rfl) ?_
                      refine JL_q (wants_none rfl) rfl (ex_move rfl) ?_
                      refine JL_bnd fun r356 hr357 => ?_
                      refine JL_call (wants_none rfl) rfl Try.call51 rfl (Ca_of0 fun w hh => c_impl_runner_halts _ w (fun _ hk => hk.elim) _ _ (hh.bx_pa 12 rfl (Grunner.rdmk (Rd.mk_int _ _ _) (Rd.mk_int _ _ _) (hh.rd0 9 rfl) (Rd.mk_int _ _ _) (hh.ow0 10 rfl) (hh.ow0 11 rfl)) rfl) _ hr357) (fun _ => ?_)
                      refine JL_q (wants_none rfl) rfl (ex_assign rfl) ?_
                      refine JL_q (wants_none rfl) rfl (ex_assign rfl) ?_
                      refine JL_q (wants_none rfl) rfl (ex_assign rfl) ?_
                      refine JL_nil ?_
                      refine N_then ?_
                      refine J_ret ?_
                      refine N_mid_ret ?_
                      refine N_then_ret ?_
                      refine N_block_ret ?_
                      refine N_then_ret ?_
                      refine N_round_reti ?_
                      refine N_inl3 hK3 rfl (rv_tmp rfl) (rv_tmp rfl) (rv_tmp rfl) ?_
                      refine JL_q (wants_none rfl) rfl (ex_move rfl) ?_
                      refine JL_q (wants_none rfl) rfl (ex_extract rfl rfl) ?_
                      refine JL_q (wants_none rfl) rfl (ex_extract rfl rfl) ?_
                      refine JL_q (wants_none rfl) rfl (ex_extract rfl rfl) ?_
                      refine JL_q (wants_none rfl) rfl (ex_assign rfl) ?_
                      refine JL_q (wants_none rfl) rfl (ex_assign rfl) ?_
                      refine JL_q (wants_none rfl) rfl (ex_assign rfl) ?_
                      refine JL_nil ?_
                      refine N_then ?_
                      refine J_seq ?_
                      refine J_region ?_
                      refine JL_q (wants_none rfl) rfl (ex_move rfl) ?_
                      refine JL_q (wants_none rfl) rfl (ex_move rfl) ?_
                      refine JL_q (wants_none rfl) rfl (ex_move rfl) ?_
                      refine JL_q (wants_none rfl) rfl (ex_assign rfl) ?_
                      refine JL_q (wants_none rfl) rfl (ex_assign rfl) ?_
                      refine JL_q (wants_none rfl) rfl (ex_assign rfl) ?_
                      refine JL_nil ?_
                      refine N_then ?_
                      refine J_ret ?_
                      exact N_ret3 rfl (rv_tmp rfl) (rv_tmp rfl) (rv_tmp rfl) (fun w hh => ⟨(v352, v348, (g10_2 ++ (((x290_0 : Value).ownBlock.toList ++ []) ++ (((x290_1 : Value).ownBlock.toList ++ []) ++ []))), b2), rfl, hh.sel [6, 7, 8] rfl⟩)
                    · refine JL_q (wants_some rfl rfl rfl h355) rfl (ex_move rfl) ?_
                      refine JL_bnd fun r358 hr359 => ?_
                      refine JL_call (wants_some rfl rfl rfl h355) rfl Try.call51 rfl (Ca_of0 fun w hh => c_impl_runner_halts _ w (fun _ hk => hk.elim) _ _ (hh.bx_pa 12 rfl (Grunner.rdmk (Rd.mk_int _ _ _) (Rd.mk_int _ _ _) (hh.rd0 9 rfl) (Rd.mk_int _ _ _) (hh.ow0 10 rfl) (hh.ow0 11 rfl)) rfl) _ hr359) (fun _ => ?_)
                      refine JL_q (wants_none rfl) rfl (ex_pick_false rfl h355 rfl) ?_
                      refine JL_nil ?_
                      refine N_then ?_
                      refine J_if rfl (fun h360 => ?_) (fun h360 => ?_)
                      · refine J_seq ?_
                        refine J_region ?_
                        refine JL_q (wants_none rfl) rfl (ex_move rfl) ?_
                        refine JL_q (wants_none rfl) rfl (ex_move rfl) ?_
                        refine JL_bnd fun r361 hr362 => ?_
                        refine JL_call (wants_none rfl) rfl Try.call51 rfl (Ca_of0 fun w hh => c_impl_runner_halts _ w (fun _ hk => hk.elim) _ _ (hh.bx_pa 12 rfl (Grunner.rdmk (Rd.mk_int _ _ _) (Rd.mk_int _ _ _) (hh.rd0 9 rfl) (Rd.mk_int _ _ _) (hh.ow0 10 rfl) (hh.ow0 11 rfl)) rfl) _ hr362) (fun _ => ?_)
                        refine JL_q (wants_none rfl) rfl (ex_assign rfl) ?_
                        refine JL_q (wants_none rfl) rfl (ex_assign rfl) ?_
                        refine JL_q (wants_none rfl) rfl (ex_assign rfl) ?_
                        refine JL_nil ?_
                        refine N_then ?_
                        refine J_ret ?_
                        refine N_mid_ret ?_
                        refine N_then_ret ?_
                        refine N_block_ret ?_
                        refine N_then_ret ?_
                        refine N_round_reti ?_
                        refine N_inl3 hK3 rfl (rv_tmp rfl) (rv_tmp rfl) (rv_tmp rfl) ?_
                        refine JL_q (wants_none rfl) rfl (ex_move rfl) ?_
                        refine JL_q (wants_none rfl) rfl (ex_extract rfl rfl) ?_
                        refine JL_q (wants_none rfl) rfl (ex_extract rfl rfl) ?_
                        refine JL_q (wants_none rfl) rfl (ex_extract rfl rfl) ?_
                        refine JL_q (wants_none rfl) rfl (ex_assign rfl) ?_
                        refine JL_q (wants_none rfl) rfl (ex_assign rfl) ?_
                        refine JL_q (wants_none rfl) rfl (ex_assign rfl) ?_
                        refine JL_nil ?_
                        refine N_then ?_
                        refine J_seq ?_
                        refine J_region ?_
                        refine JL_q (wants_none rfl) rfl (ex_move rfl) ?_
                        refine JL_q (wants_none rfl) rfl (ex_move rfl) ?_
                        refine JL_q (wants_none rfl) rfl (ex_move rfl) ?_
                        refine JL_q (wants_none rfl) rfl (ex_assign rfl) ?_
                        refine JL_q (wants_none rfl) rfl (ex_assign rfl) ?_
                        refine JL_q (wants_none rfl) rfl (ex_assign rfl) ?_
                        refine JL_nil ?_
                        refine N_then ?_
                        refine J_ret ?_
                        exact N_ret3 rfl (rv_tmp rfl) (rv_tmp rfl) (rv_tmp rfl) (fun w hh => ⟨(v352, v348, (g10_2 ++ (((x290_0 : Value).ownBlock.toList ++ []) ++ (((x290_1 : Value).ownBlock.toList ++ []) ++ []))), b2), rfl, hh.sel [6, 7, 8] rfl⟩)
                      · refine J_skip ?_
                        exact N_meet' () ⟨rfl, rfl, rfl, rfl, rfl, trivial⟩ [6, 7, 8, 9, 10, 11, 12] rfl rfl
                  · refine N_then ?_
                    refine J_seq ?_
                    refine J_region ?_
                    refine JL_q (wants_none rfl) rfl (ex_move rfl) ?_
                    refine JL_bnd fun r363 hr364 => ?_
                    refine JL_call (wants_none rfl) rfl Try.call52 rfl (Ca_of0 fun w hh => c_impl_runner_rule _ w (fun _ hk => hk.elim) _ _ (hh.bx_pa 6 rfl (Grunner.rdmk (Rd.mk_int _ _ _) (Rd.mk_int _ _ _) (hh.rd0 3 rfl) (Rd.mk_int _ _ _) (hh.ow0 4 rfl) (hh.ow0 5 rfl)) rfl) _ hr364) (fun _ => ?_)
                    refine JL_st (wants_none rfl) rfl (st_alloc zi_80 rfl) (fun b365 => ?_)
                    refine JL_sk (wants_none rfl) (sk_store_bx' 0 ti_80 rfl rfl (fun w hh => (cv_aggs ⟨cv_int, cv_int, cv_int, trivial⟩)) rfl rfl rfl rfl) ?_
                    refine JL_nil ?_
                    refine N_then ?_
                    refine J_seq ?_
                    refine J_region ?_
                    refine JL_q (wants_none rfl) rfl (ex_move rfl) ?_
                    refine JL_q (wants_none rfl) rfl (ex_move rfl) ?_
                    refine JL_q (wants_none rfl) rfl (ex_move rfl) ?_
                    refine JL_q (wants_none rfl) rfl (ex_load_bx_agg 0 ti_80 rfl rfl rfl rfl) ?_
                    refine JL_inlinem (wants_none rfl) rfl rfl rfl (me_63_104 _ _ _ _) Try.func104 rfl Try.ntmps104 rfl rfl (fun K_ hK366 => ?_)
                    refine J_region ?_
                    refine JL_st (wants_none rfl) rfl (st_box' rfl (fun w hh => (cv_aggs ⟨cv_int, cv_int, cv_int, trivial⟩))) (fun b367 => ?_)
                    refine JL_nil ?_
                    refine N_inl0 (.inr rfl) hK366 rfl ?_
                    refine JL_nil ?_
                    refine N_then ?_
                    refine J_seq ?_
                    refine J_seq ?_
                    refine J_region ?_
                    refine JL_q (wants_none rfl) rfl (ex_move rfl) ?_
                    refine JL_bnd fun r368 hr369 => ?_
                    refine JL_callT (wants_none rfl) rfl Try.call53 rfl (CaT_of [8, 6, 7] [0, 1, 2, 3, 4, 5] rfl rfl (fun _ => rfl) fun w hh => c_impl_runner_step w x8_3 (⟨r6.1, r6.2.1, r6.2.2.1, s9.2.2.2.2.1, s9.2.2.2.2.2.1, s9.2.2.2.2.2.2.1⟩ : Grunner) x8_0 g10_3 g10_4 _ rfl (hh.handed [8, 6, 7] rfl rfl rfl rfl) (hh.apart [8, 6, 7] rfl (hh.rd 5 rfl)) _ hr369) (fun x370 => ?_)
                    obtain ⟨x370_0, x370_1⟩ := x370
                    refine JL_q (wants_none rfl) rfl (ex_not rfl) ?_
                    refine JL_nil ?_
                    refine N_then ?_
                    refine J_if rfl (fun h371 => ?_) (fun h371 => ?_)
                    · refine J_seq ?_
                      refine J_region ?_
                      refine JL_q (wants_none rfl) rfl (ex_assign rfl) ?_
                      refine JL_q (wants_none rfl) rfl (ex_assign rfl) ?_
                      refine JL_q (wants_none rfl) rfl (ex_assign rfl) ?_
                      refine JL_nil ?_
                      refine N_then ?_
                      refine J_ret ?_
                      refine N_then_ret ?_
                      refine N_block_ret ?_
                      refine N_then_ret ?_
                      refine N_round_reti ?_
                      refine N_inl3 hK3 rfl (rv_tmp rfl) (rv_tmp rfl) (rv_tmp rfl) ?_
                      refine JL_q (wants_none rfl) rfl (ex_move rfl) ?_
                      refine JL_q (wants_none rfl) rfl (ex_extract rfl rfl) ?_
                      refine JL_q (wants_none rfl) rfl (ex_extract rfl rfl) ?_
                      refine JL_q (wants_none rfl) rfl (ex_extract rfl rfl) ?_
                      refine JL_q (wants_none rfl) rfl (ex_assign rfl) ?_
                      refine JL_q (wants_none rfl) rfl (ex_assign rfl) ?_
                      refine JL_q (wants_none rfl) rfl (ex_assign rfl) ?_
                      refine JL_nil ?_
                      refine N_then ?_
                      refine J_seq ?_
                      refine J_region ?_
                      refine JL_q (wants_none rfl) rfl (ex_move rfl) ?_
                      refine JL_q (wants_none rfl) rfl (ex_move rfl) ?_
                      refine JL_q (wants_none rfl) rfl (ex_move rfl) ?_
                      refine JL_q (wants_none rfl) rfl (ex_assign rfl) ?_
                      refine JL_q (wants_none rfl) rfl (ex_assign rfl) ?_
                      refine JL_q (wants_none rfl) rfl (ex_assign rfl) ?_
                      refine JL_nil ?_
                      refine N_then ?_
                      refine J_ret ?_
                      exact N_ret3 rfl (rv_tmp rfl) (rv_tmp rfl) (rv_tmp rfl) (fun w hh => ⟨(v352, v348, (g10_2 ++ (((x290_0 : Value).ownBlock.toList ++ []) ++ (((x290_1 : Value).ownBlock.toList ++ []) ++ []))), b2), rfl, hh.sel [5, 6, 7] rfl⟩)
                    · refine J_skip ?_
                      refine N_then ?_
                      refine J_region ?_
                      refine JL_q (wants_none rfl) rfl (ex_move rfl) ?_
                      refine JL_q (wants_none rfl) rfl (ex_fieldAddr fi_80_1 rfl rfl) ?_
                      refine JL_q (wants_none rfl) rfl (ex_load_bx 4 ti_2 rfl rfl rfl) ?_
                      refine JL_q (wants_none rfl) rfl (ex_add rfl rfl) ?_
                      refine JL_q (wants_none rfl) rfl (ex_assign rfl) ?_
                      refine JL_nil ?_
                      refine N_block ?_
                      refine N_then ?_
                      refine J_region ?_
                      refine JL_q (wants_none rfl) rfl (ex_move rfl) ?_
                      refine JL_q (wants_none rfl) rfl (ex_add rfl rfl) ?_
                      refine JL_q (wants_none rfl) rfl (ex_assign rfl) ?_
                      refine JL_nil ?_
                      exact N_next' (v352, v348, (g10_2 ++ (((x290_0 : Value).ownBlock.toList ++ []) ++ (((x290_1 : Value).ownBlock.toList ++ []) ++ []))), x370_0, x370_1) ⟨rfl, rfl, rfl, rfl, rfl, trivial⟩ [5, 6, 7, 8, 1, 2, 0] rfl rfl
      · refine J_skip ?_
        refine N_block ?_
        refine N_then ?_
        refine J_region ?_
        refine JL_q (wants_none rfl) rfl (ex_move rfl) ?_
        refine JL_q (wants_none rfl) rfl (ex_move rfl) ?_
        refine JL_q (wants_none rfl) rfl (ex_nilCheck rfl) ?_
        refine JL_q (wants_none rfl) rfl (ex_fieldAddr fi_70_0 rfl rfl) ?_
        refine JL_q (wants_none rfl) rfl (ex_fieldAddr fi_68_0 rfl rfl) ?_
        refine JL_q (wants_none rfl) rfl (ex_load_bx 2 ti_33 rfl rfl rfl) ?_
        refine JL_q (wants_none rfl) rfl (ex_move rfl) ?_
        refine JL_st (wants_none rfl) rfl (st_buildSlice (vs := [.int .i64 s9.2.2.2.2.2.2.2.1]) ([s9.2.2.2.2.2.2.2.1] : List Int) Try.underlying33 ti_2 zi_2 rfl rfl rfl (fun w hh => ⟨(Rd.mk_int _ _ _), trivial⟩)) (fun b372 => ?_)
        refine JL_bnd fun z373 hz374 => ?_
        refine JL_st (wants_none rfl) rfl (st_append 1 Try.underlying33 ti_2 zi_2 rfl bi_2 rfl rfl rfl rfl (fun w hh => hh.src_ow 0 rfl) hz374) (fun v375 => ?_)
        refine JL_q (wants_none rfl) rfl (ex_nilCheck rfl) ?_
        refine JL_q (wants_none rfl) rfl (ex_fieldAddr fi_70_0 rfl rfl) ?_
        refine JL_q (wants_none rfl) rfl (ex_fieldAddr fi_68_0 rfl rfl) ?_
        refine JL_sk (wants_none rfl) (sk_store_bx' 3 ti_33 rfl rfl (fun w hh => (hh.cv_ow 1 rfl)) rfl rfl rfl rfl) ?_
        refine JL_nil ?_
        refine N_inl0 (.inr rfl) hK11 rfl ?_
        refine JL_nil ?_
        refine N_then ?_
        refine J_seq ?_
        refine J_cut' (S' := Unit) (G' := Unit) (fun _ _ => [(2, .int .i64 p1), (3, .iface 63 (.pointer (some ⟨b2, 0, none⟩))), (11, .pointer (some ⟨x8_3, 0, none⟩)), (12, .int .i64 s9.2.2.2.2.2.2.2.1), (13, .int .i64 s9.2.2.2.2.2.2.2.2)]) (fun _ _ => [.ow 2 v375 z373, .od 72 g10_1 s9.2.1 g10_2, .bx b2 70 [v375, g10_1, .int .i64 s9.2.2.1, .int .i64 s9.2.2.2.1], .rd x8_0 r6.2.2.1, .ow 2 g10_3 s9.2.2.2.2.2.1, .ow 2 g10_4 s9.2.2.2.2.2.2.1, .bx x8_3 112 [.int .i64 r6.1, .int .i64 r6.2.1, x8_0, .int .i64 s9.2.2.2.2.1, g10_3, g10_4]]) ?_ (fun s376 g377 => ?_)
        · refine J_seq ?_
          refine J_region ?_
          refine JL_q (wants_none rfl) rfl (ex_move rfl) ?_
          refine JL_q (wants_none rfl) rfl (ex_move rfl) ?_
          refine JL_q (wants_none rfl) rfl (ex_eql rfl rfl) ?_
          refine JL_q (wants_none rfl) rfl (ex_move rfl) ?_
          refine JL_cond (fun h378 => ?_) (fun h378 => ?_)
          · refine JL_passed rfl rfl rfl h378 ?_
            refine JL_passed rfl rfl rfl h378 ?_
            refine JL_q (wants_none rfl) rfl (ex_pick_true rfl h378 rfl) ?_
            refine JL_nil ?_
            refine N_then ?_
            refine J_if_true rfl rfl ?_
            refine J_seq ?_
            refine J_region ?_
            refine JL_q (wants_none rfl) rfl (ex_move rfl) ?_
            refine JL_q (wants_none rfl) rfl (ex_move rfl) ?_
            refine JL_bnd fun r379 hr380 => ?_
            refine JL_call (wants_none rfl) rfl Try.call51 rfl (Ca_of0 fun w hh => c_impl_runner_halts _ w (fun _ hk => hk.elim) _ _ (hh.bx_pa 7 rfl (Grunner.rdmk (Rd.mk_int _ _ _) (Rd.mk_int _ _ _) (hh.rd0 4 rfl) (Rd.mk_int _ _ _) (hh.ow0 5 rfl) (hh.ow0 6 rfl)) rfl) _ hr380) (fun _ => ?_)
            refine JL_q (wants_none rfl) rfl (ex_assign rfl) ?_
            refine JL_q (wants_none rfl) rfl (ex_assign rfl) ?_
            refine JL_q (wants_none rfl) rfl (ex_assign rfl) ?_
            refine JL_nil ?_
            refine N_then ?_
            refine J_ret ?_
            refine N_mid_ret ?_
            refine N_then_ret ?_
            refine N_block_ret ?_
            refine N_then_ret ?_
            refine N_round_reti ?_
            refine N_inl3 hK3 rfl (rv_tmp rfl) (rv_tmp rfl) (rv_tmp rfl) ?_
            refine JL_q (wants_none rfl) rfl (ex_move rfl) ?_
            refine JL_q (wants_none rfl) rfl (ex_extract rfl rfl) ?_
            refine JL_q (wants_none rfl) rfl (ex_extract rfl rfl) ?_
            refine JL_q (wants_none rfl) rfl (ex_extract rfl rfl) ?_
            refine JL_q (wants_none rfl) rfl (ex_assign rfl) ?_
            refine JL_q (wants_none rfl) rfl (ex_assign rfl) ?_
            refine JL_q (wants_none rfl) rfl (ex_assign rfl) ?_
            refine JL_nil ?_
            refine N_then ?_
            refine J_seq ?_
            refine J_region ?_
            refine JL_q (wants_none rfl) rfl (ex_move rfl) ?_
            refine JL_q (wants_none rfl) rfl (ex_move rfl) ?_
            refine JL_q (wants_none rfl) rfl (ex_move rfl) ?_
            refine JL_q (wants_none rfl) rfl (ex_assign rfl) ?_
            refine JL_q (wants_none rfl) rfl (ex_assign rfl) ?_
            refine JL_q (wants_none rfl) rfl (ex_assign rfl) ?_
            refine JL_nil ?_
            refine N_then ?_
            refine J_ret ?_
            exact N_ret3 rfl (rv_tmp rfl) (rv_tmp rfl) (rv_tmp rfl) (fun w hh => ⟨(v375, g10_1, g10_2, b2), rfl, hh.sel [1, 2, 3] rfl⟩)
          · refine JL_q (wants_some rfl rfl rfl h378) rfl (ex_move rfl) ?_
            refine JL_bnd fun r381 hr382 => ?_
            refine JL_call (wants_some rfl rfl rfl h378) rfl Try.call51 rfl (Ca_of0 fun w hh => c_impl_runner_halts _ w (fun _ hk => hk.elim) _ _ (hh.bx_pa 7 rfl (Grunner.rdmk (Rd.mk_int _ _ _) (Rd.mk_int _ _ _) (hh.rd0 4 rfl) (Rd.mk_int _ _ _) (hh.ow0 5 rfl) (hh.ow0 6 rfl)) rfl) _ hr382) (fun _ => ?_)
            refine JL_q (wants_none rfl) rfl (ex_pick_false rfl h378 rfl) ?_
            refine JL_nil ?_
            refine N_then ?_
            refine J_if rfl (fun h383 => ?_) (fun h383 => ?_)
            · refine J_seq ?_
              refine J_region ?_
              refine JL_q (wants_none rfl) rfl (ex_move rfl) ?_
              refine JL_q (wants_none rfl) rfl (ex_move rfl) ?_
              refine JL_bnd fun r384 hr385 => ?_
              refine JL_call (wants_none rfl) rfl Try.call51 rfl (Ca_of0 fun w hh => c_impl_runner_halts _ w (fun _ hk => hk.elim) _ _ (hh.bx_pa 7 rfl (Grunner.rdmk (Rd.mk_int _ _ _) (Rd.mk_int _ _ _) (hh.rd0 4 rfl) (Rd.mk_int _ _ _) (hh.ow0 5 rfl) (hh.ow0 6 rfl)) rfl) _ hr385) (fun _ => ?_)
              refine JL_q (wants_none rfl) rfl (ex_assign rfl) ?_
              refine JL_q (wants_none rfl) rfl (ex_assign rfl) ?_
              refine JL_q (wants_none rfl) rfl (ex_assign rfl) ?_
              refine JL_nil ?_
              refine N_then ?_
              refine J_ret ?_
              refine N_mid_ret ?_
              refine N_then_ret ?_
              refine N_block_ret ?_
              refine N_then_ret ?_
              refine N_round_reti ?_
              refine N_inl3 hK3 rfl (rv_tmp rfl) (rv_tmp rfl) (rv_tmp rfl) ?_
              refine JL_q (wants_none rfl) rfl (ex_move rfl) ?_
              refine JL_q (wants_none rfl) rfl (ex_extract rfl rfl) ?_
              refine JL_q (wants_none rfl) rfl (ex_extract rfl rfl) ?_
              refine JL_q (wants_none rfl) rfl (ex_extract rfl rfl) ?_
              refine JL_q (wants_none rfl) rfl (ex_assign rfl) ?_
              refine JL_q (wants_none rfl) rfl (ex_assign rfl) ?_
              refine JL_q (wants_none rfl) rfl (ex_assign rfl) ?_
              refine JL_nil ?_
              refine N_then ?_
              refine J_seq ?_
              refine J_region ?_
              refine JL_q (wants_none rfl) rfl (ex_move rfl) ?_
              refine JL_q (wants_none rfl) rfl (ex_move rfl) ?_
              refine JL_q (wants_none rfl) rfl (ex_move rfl) ?_
              refine JL_q (wants_none rfl) rfl (ex_assign rfl) ?_
              refine JL_q (wants_none rfl) rfl (ex_assign rfl) ?_
              refine JL_q (wants_none rfl) rfl (ex_assign rfl) ?_
              refine JL_nil ?_
              refine N_then ?_
              refine J_ret ?_
              exact N_ret3 rfl (rv_tmp rfl) (rv_tmp rfl) (rv_tmp rfl) (fun w hh => ⟨(v375, g10_1, g10_2, b2), rfl, hh.sel [1, 2, 3] rfl⟩)
            · refine J_skip ?_
              exact N_meet' () ⟨rfl, rfl, rfl, rfl, rfl, trivial⟩ [1, 2, 3, 4, 5, 6, 7] rfl rfl
        · refine N_then ?_
          refine J_seq ?_
          refine J_region ?_
          refine JL_q (wants_none rfl) rfl (ex_move rfl) ?_
          refine JL_bnd fun r386 hr387 => ?_
          refine JL_call (wants_none rfl) rfl Try.call52 rfl (Ca_of0 fun w hh => c_impl_runner_rule _ w (fun _ hk => hk.elim) _ _ (hh.bx_pa 6 rfl (Grunner.rdmk (Rd.mk_int _ _ _) (Rd.mk_int _ _ _) (hh.rd0 3 rfl) (Rd.mk_int _ _ _) (hh.ow0 4 rfl) (hh.ow0 5 rfl)) rfl) _ hr387) (fun _ => ?_)
          refine JL_st (wants_none rfl) rfl (st_alloc zi_80 rfl) (fun b388 => ?_)
          refine JL_sk (wants_none rfl) (sk_store_bx' 0 ti_80 rfl rfl (fun w hh => (cv_aggs ⟨cv_int, cv_int, cv_int, trivial⟩)) rfl rfl rfl rfl) ?_
          refine JL_nil ?_
          refine N_then ?_
          refine J_seq ?_
          refine J_region ?_
          refine JL_q (wants_none rfl) rfl (ex_move rfl) ?_
          refine JL_q (wants_none rfl) rfl (ex_move rfl) ?_
          refine JL_q (wants_none rfl) rfl (ex_move rfl) ?_
          refine JL_q (wants_none rfl) rfl (ex_load_bx_agg 0 ti_80 rfl rfl rfl rfl) ?_
          refine JL_inlinem (wants_none rfl) rfl rfl rfl (me_63_104 _ _ _ _) Try.func104 rfl Try.ntmps104 rfl rfl (fun K_ hK389 => ?_)
          refine J_region ?_
          refine JL_st (wants_none rfl) rfl (st_box' rfl (fun w hh => (cv_aggs ⟨cv_int, cv_int, cv_int, trivial⟩))) (fun b390 => ?_)
          refine JL_nil ?_
          refine N_inl0 (.inr rfl) hK389 rfl ?_
          refine JL_nil ?_
          refine N_then ?_
          refine J_seq ?_
          refine J_seq ?_
          refine J_region ?_
          refine JL_q (wants_none rfl) rfl (ex_move rfl) ?_
          refine JL_bnd fun r391 hr392 => ?_
          refine JL_callT (wants_none rfl) rfl Try.call53 rfl (CaT_of [8, 6, 7] [0, 1, 2, 3, 4, 5] rfl rfl (fun _ => rfl) fun w hh => c_impl_runner_step w x8_3 (⟨r6.1, r6.2.1, r6.2.2.1, s9.2.2.2.2.1, s9.2.2.2.2.2.1, s9.2.2.2.2.2.2.1⟩ : Grunner) x8_0 g10_3 g10_4 _ rfl (hh.handed [8, 6, 7] rfl rfl rfl rfl) (hh.apart [8, 6, 7] rfl (hh.rd 5 rfl)) _ hr392) (fun x393 => ?_)
          obtain ⟨x393_0, x393_1⟩ := x393
          refine JL_q (wants_none rfl) rfl (ex_not rfl) ?_
          refine JL_nil ?_
          refine N_then ?_
          refine J_if rfl (fun h394 => ?_) (fun h394 => ?_)
          · refine J_seq ?_
            refine J_region ?_
            refine JL_q (wants_none rfl) rfl (ex_assign rfl) ?_
            refine JL_q (wants_none rfl) rfl (ex_assign rfl) ?_
            refine JL_q (wants_none rfl) rfl (ex_assign rfl) ?_
            refine JL_nil ?_
            refine N_then ?_
            refine J_ret ?_
            refine N_then_ret ?_
            refine N_block_ret ?_
            refine N_then_ret ?_
            refine N_round_reti ?_
            refine N_inl3 hK3 rfl (rv_tmp rfl) (rv_tmp rfl) (rv_tmp rfl) ?_
            refine JL_q (wants_none rfl) rfl (ex_move rfl) ?_
            refine JL_q (wants_none rfl) rfl (ex_extract rfl rfl) ?_
            refine JL_q (wants_none rfl) rfl (ex_extract rfl rfl) ?_
            refine JL_q (wants_none rfl) rfl (ex_extract rfl rfl) ?_
            refine JL_q (wants_none rfl) rfl (ex_assign rfl) ?_
            refine JL_q (wants_none rfl) rfl (ex_assign rfl) ?_
            refine JL_q (wants_none rfl) rfl (ex_assign rfl) ?_
            refine JL_nil ?_
            refine N_then ?_
            refine J_seq ?_
            refine J_region ?_
            refine JL_q (wants_none rfl) rfl (ex_move rfl) ?_
            refine JL_q (wants_none rfl) rfl (ex_move rfl) ?_
            refine JL_q (wants_none rfl) rfl (ex_move rfl) ?_
            refine JL_q (wants_none rfl) rfl (ex_assign rfl) ?_
            refine JL_q (wants_none rfl) rfl (ex_assign rfl) ?_
            refine JL_q (wants_none rfl) rfl (ex_assign rfl) ?_
            refine JL_nil ?_
            refine N_then ?_
            refine J_ret ?_
            exact N_ret3 rfl (rv_tmp rfl) (rv_tmp rfl) (rv_tmp rfl) (fun w hh => ⟨(v375, g10_1, g10_2, b2), rfl, hh.sel [5, 6, 7] rfl⟩)
          · refine J_skip ?_
            refine N_then ?_
            refine J_region ?_
            refine JL_q (wants_none rfl) rfl (ex_move rfl) ?_
            refine JL_q (wants_none rfl) rfl (ex_fieldAddr fi_80_1 rfl rfl) ?_
            refine JL_q (wants_none rfl) rfl (ex_load_bx 4 ti_2 rfl rfl rfl) ?_
            refine JL_q (wants_none rfl) rfl (ex_add rfl rfl) ?_
            refine JL_q (wants_none rfl) rfl (ex_assign rfl) ?_
            refine JL_nil ?_
            refine N_block ?_
            refine N_then ?_
            refine J_region ?_
            refine JL_q (wants_none rfl) rfl (ex_move rfl) ?_
            refine JL_q (wants_none rfl) rfl (ex_add rfl rfl) ?_
            refine JL_q (wants_none rfl) rfl (ex_assign rfl) ?_
            refine JL_nil ?_
            exact N_next' (v375, g10_1, g10_2, x393_0, x393_1) ⟨rfl, rfl, rfl, rfl, rfl, trivial⟩ [5, 6, 7, 8, 1, 2, 0] rfl rfl
  · obtain ⟨g10_0, g10_1, g10_2, g10_3, g10_4⟩ := g10
    exact N_none

end Go.Proofs.Ytcgaddlkebifdaa
