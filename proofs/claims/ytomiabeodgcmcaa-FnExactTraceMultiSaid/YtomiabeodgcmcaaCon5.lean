/-
  Each function of the program computes what its plain function says: printed by program. No condition.
-/
import Derived.Test.YtomiabeodgcmcaaFn
import Derived.Test.YtomiabeodgcmcaaInf
import Derived.Test.YtomiabeodgcmcaaCon2
namespace Go.Proofs.Ytomiabeodgcmcaa
open Go Go.Tc Go.Fn
set_option linter.unusedVariables false

set_option maxHeartbeats 40000000 in
theorem c_spec_l06Own (A : Nat → Prop) (w : World) (hA : ∀ k, A k → k < w.heap.size) (v0_ : Value) (p0 : GMultiConfig) (hp0 : RdA A w.heap.size w v0_ p0) (r : GMultiConfig) (hr : F_spec_l06Own p0 = some r) :
    Con Try.prog 45 [v0_] A w (fun x_ : Value × List Nat => .agg #[.int .i64 r.State, x_.1]) (fun x_ => [.od 91 x_.1 r.Tapes x_.2]) := by
  refine Con_of (v := fun (r : GMultiConfig) (x_ : Value × List Nat) => .agg #[.int .i64 r.State, x_.1]) (fs := fun r x_ => [.od 91 x_.1 r.Tapes x_.2]) Try.func45 rfl Try.ntmps45 rfl ((SH.start hA).start_pa' rfl hp0) rfl ?_ hr
  unfold F_spec_l06Own
  refine J_seq ?_
  refine J_region ?_
  refine JL_st (wants_none rfl) rfl (st_alloc zi_32 rfl) (fun b1 => ?_)
  refine JL_nil ?_
  refine N_then ?_
  refine J_seq ?_
  refine J_region ?_
  refine JL_q (wants_none rfl) rfl (ex_move rfl) ?_
  refine JL_q (wants_none rfl) rfl (ex_nilCheck_pa 1 rfl rfl) ?_
  refine JL_st (wants_none rfl) rfl (st_field_pa 1 (GMultiConfig.at_State _) fi_32_0 rfl rfl rfl) (fun q2 => ?_)
  refine JL_st (wants_none rfl) rfl (st_load_pa_o 0 (opens_int _) ti_2 rfl rfl) (fun _ => ?_)
  refine JL_q (wants_none rfl) rfl (ex_build si_32 rfl (.cons fi_32_0 rfl rfl .nil) (fun w hh => ⟨cv_int, trivial⟩)) ?_
  refine JL_st (wants_none rfl) rfl (st_alloc zi_32 rfl) (fun b4 => ?_)
  refine JL_sk (wants_none rfl) (sk_store_bx' 0 ti_32 rfl rfl (fun w hh => (cv_aggs ⟨cv_int, cv_slice, trivial⟩)) rfl rfl rfl rfl) ?_
  refine JL_nil ?_
  refine N_then ?_
  refine J_seq ?_
  refine J_seq ?_
  refine J_region ?_
  refine JL_q (wants_none rfl) rfl (ex_assign rfl) ?_
  refine JL_nil ?_
  refine N_then ?_
  refine J_ctx (fun w hh => SH.od_nil (α := GTape) 91 hh) ?_
  refine J_loop' (S := (List GTape) × Int) (G := Value × List Nat) (F_spec_l06Own_L1 p0) (fun s5 g6 => [(0, v0_), (2, .pointer (some ⟨b1, 0, none⟩)), (3, .pointer (some ⟨b4, 0, none⟩)), (4, .int .i64 s5.2)]) (fun s5 g6 => [.pa v0_ p0, .bx b1 32 [.int .i64 0, .slice none 0 0], .od 91 g6.1 s5.1 g6.2, .bx b4 32 [.int .i64 p0.State, g6.1]]) (([] : (List GTape)), 0) ((.slice none 0 0 : Value), ([] : List Nat)) ⟨rfl, rfl, rfl, rfl, trivial⟩ [4, 3, 0, 1] rfl rfl (fun s5 g6 => ?_) (fun s5 g6 => ?_)
  · obtain ⟨g6_0, g6_1⟩ := g6
    unfold F_spec_l06Own_L1
    refine J_seq ?_
    refine J_seq ?_
    refine J_region ?_
    refine JL_q (wants_none rfl) rfl (ex_move rfl) ?_
    refine JL_q (wants_none rfl) rfl (ex_move rfl) ?_
    refine JL_q (wants_none rfl) rfl (ex_nilCheck_pa 0 rfl rfl) ?_
    refine JL_st (wants_none rfl) rfl (st_field_pa 0 (GMultiConfig.at_Tapes _) fi_32_1 rfl rfl rfl) (fun q7 => ?_)
    refine JL_st (wants_none rfl) rfl (st_load_pa_o 0 (opens_sl _) ti_30 rfl rfl) (fun v8 => ?_)
    refine JL_q (wants_none rfl) rfl (ex_len_rd 0 Try.underlying30 rfl rfl) ?_
    refine JL_q (wants_none rfl) rfl (ex_lss rfl rfl) ?_
    refine JL_nil ?_
    refine N_then ?_
    refine J_if rfl (fun h9 => ?_) (fun h9 => ?_)
    · refine J_skip ?_
      refine N_then ?_
      refine J_seq ?_
      refine J_block ?_
      refine J_draw [4, 5] (by kernel_rfl) ?_
      refine JP_take (i := 0) [0, 1, 2, 3] [4, 5] rfl (by kernel_rfl) (by kernel_rfl) (by kernel_rfl) rfl rfl (wants_none rfl) rfl (ex_fieldAddr fi_32_1 rfl rfl) ?_
      refine JP_take (i := 2) [0, 1, 2, 3] [4, 5] rfl (by kernel_rfl) (by kernel_rfl) (by kernel_rfl) rfl rfl (wants_none rfl) rfl (ex_move rfl) ?_
      refine JP_take (i := 3) [0, 1, 2, 3] [4, 5] rfl (by kernel_rfl) (by kernel_rfl) (by kernel_rfl) rfl rfl (wants_none rfl) rfl (ex_nilCheck_pa 2 rfl rfl) ?_
      refine JP_sq (i := 4) [4, 5] rfl (by kernel_rfl) (by kernel_rfl) (by kernel_rfl) rfl (wants_none rfl) rfl (sq_field_pa 2 (GMultiConfig.at_Tapes _) fi_32_1 rfl rfl rfl) (fun q10 => ?_)
      refine JP_sq (i := 5) [5, 6] rfl (by kernel_rfl) (by kernel_rfl) (by kernel_rfl) rfl (wants_none rfl) rfl (sq_load_pa_o 0 (opens_sl _) ti_30 rfl rfl) (fun v11 => ?_)
      refine JP_take (i := 6) [0, 1, 2, 3, 4, 5] [6, 7] rfl (by kernel_rfl) (by kernel_rfl) (by kernel_rfl) rfl rfl (wants_none rfl) rfl (ex_move rfl) ?_
      refine JP_bnd fun y12 hy13 => ?_
      refine JP_sq (i := 7) [6, 7] rfl (by kernel_rfl) (by kernel_rfl) (by kernel_rfl) rfl (wants_none rfl) rfl (sq_index 0 Try.underlying30 ti_91 rfl rfl rfl hy13) (fun q14 => ?_)
      refine JP_sq (i := 8) [7, 8] rfl (by kernel_rfl) (by kernel_rfl) (by kernel_rfl) rfl (wants_none rfl) rfl (sq_field_pt 0 (GTape.at_Left _) fi_91_0 rfl rfl rfl) (fun q15 => ?_)
      refine JP_sq (i := 9) [8, 9] rfl (by kernel_rfl) (by kernel_rfl) (by kernel_rfl) rfl (wants_none rfl) rfl (sq_load_pt_o 0 (opens_sl _) ti_66 rfl rfl) (fun v16 => ?_)
      refine JP_take (i := 11) [0, 1, 2, 3, 4, 5, 6, 7, 8] [9, 10] rfl (by kernel_rfl) (by kernel_rfl) (by kernel_rfl) rfl rfl (wants_none rfl) rfl (ex_move rfl) ?_
      refine JP_take (i := 12) [0, 1, 2, 3, 4, 5, 6, 7, 8] [9, 10] rfl (by kernel_rfl) (by kernel_rfl) (by kernel_rfl) rfl rfl (wants_none rfl) rfl (ex_nilCheck_pa 7 rfl rfl) ?_
      refine JP_sq (i := 13) [9, 10] rfl (by kernel_rfl) (by kernel_rfl) (by kernel_rfl) rfl (wants_none rfl) rfl (sq_field_pa 7 (GMultiConfig.at_Tapes _) fi_32_1 rfl rfl rfl) (fun q17 => ?_)
      refine JP_sq (i := 14) [10, 11] rfl (by kernel_rfl) (by kernel_rfl) (by kernel_rfl) rfl (wants_none rfl) rfl (sq_load_pa_o 0 (opens_sl _) ti_30 rfl rfl) (fun v18 => ?_)
      refine JP_take (i := 15) [0, 1, 2, 3, 4, 5, 6, 7, 8, 9, 10] [11, 12] rfl (by kernel_rfl) (by kernel_rfl) (by kernel_rfl) rfl rfl (wants_none rfl) rfl (ex_move rfl) ?_
      refine JP_bnd fun y19 hy20 => ?_
      refine JP_sq (i := 16) [11, 12] rfl (by kernel_rfl) (by kernel_rfl) (by kernel_rfl) rfl (wants_none rfl) rfl (sq_index 0 Try.underlying30 ti_91 rfl rfl rfl hy20) (fun q21 => ?_)
      refine JP_sq (i := 17) [12, 13] rfl (by kernel_rfl) (by kernel_rfl) (by kernel_rfl) rfl (wants_none rfl) rfl (sq_field_pt 0 (GTape.at_Right _) fi_91_1 rfl rfl rfl) (fun q22 => ?_)
      refine JP_sq (i := 18) [13, 14] rfl (by kernel_rfl) (by kernel_rfl) (by kernel_rfl) rfl (wants_none rfl) rfl (sq_load_pt_o 0 (opens_sl _) ti_66 rfl rfl) (fun v23 => ?_)
      refine JP_go [0, 1, 2, 3, 4, 5, 6, 7, 8, 9, 10, 11, 12, 13] [14, 15] rfl rfl rfl (fun w25 h1_26 hp24 => ?_)
      refine JD_bnd fun r27 hr28 => ?_
      refine JD_two (i := 1) (j := 10) (by kernel_rfl) ?_ ?_
      · refine JO_q rfl (wants_none rfl) rfl (ex_load_bx 15 ti_30 rfl rfl rfl) ?_
        refine JD_one (i := 10) (by kernel_rfl) ?_
        refine JO_call rfl (wants_none rfl) rfl Try.call70 rfl (Ca_self (fun _ => rfl) fun w hh => c_spec_l00Own _ w (fun _ hk => hk.elim) _ _ (hh.rd0 5 rfl) _ hr28) (fun x29 => ?_)
        refine JD_bnd fun r30 hr31 => ?_
        refine JD_one (i := 19) (by kernel_rfl) ?_
        refine JO_call rfl (wants_none rfl) rfl Try.call70 rfl (Ca_self (fun _ => rfl) fun w hh => c_spec_l00Own _ w (fun _ hk => hk.elim) _ _ (hh.rd0 1 rfl) _ hr31) (fun x32 => ?_)
        refine JD_one (i := 20) (by kernel_rfl) ?_
        refine JO_q rfl (wants_none rfl) rfl (ex_build si_91 rfl (.cons fi_91_0 rfl rfl (.cons fi_91_1 rfl rfl .nil)) (fun w hh => ⟨(hh.cv_ow 1 rfl), (hh.cv_ow 0 rfl), trivial⟩)) ?_
        refine JD_one (i := 21) (by kernel_rfl) ?_
        refine JO_ctx (fun w hh => hh.tokf 1 rfl rfl) (tokf_owns (i := 1) rfl) ?_
        refine JO_ctx (fun w hh => hh.tokf 1 rfl rfl) (tokf_owns (i := 1) rfl) ?_
        refine JO_st rfl (wants_none rfl) rfl (st_buildSlice_od (vs := [.agg #[x29, x32]]) (B := (((x29 : Value).ownBlock.toList ++ []) ++ (((x32 : Value).ownBlock.toList ++ []) ++ []))) ([(⟨r27, r30⟩ : GTape)] : List GTape) [1, 0] Try.underlying30 ti_91 zi_91 rfl rfl rfl rfl rfl (fun w hh => (dwv_cons (GTape.dw (hh.dw 1 rfl) (hh.dw 0 rfl)) dwv_nil))) (fun _ hk => nomatch hk) (fun b33 => ?_)
        refine JD_bnd fun z34 hz35 => ?_
        refine JD_one (i := 22) (by kernel_rfl) ?_
        refine JO_st rfl (wants_none rfl) rfl (st_append_od 19 0 Try.underlying30 ti_91 zi_91 rfl bi_91 rfl rfl rfl rfl rfl rfl hz35) (sub_od 0 rfl) (fun v36 => ?_)
        refine JD_take (i := 23) hp24 rfl (by kernel_rfl) (by kernel_rfl) (by kernel_rfl) (wants_none rfl) rfl (ex_fieldAddr fi_32_1 rfl rfl) ?_
        refine JD_one (i := 24) (by kernel_rfl) ?_
        refine JO_sk rfl (wants_none rfl) (sk_store_bx' 20 ti_30 rfl rfl (fun w hh => (hh.cv_od 19 rfl)) rfl rfl rfl rfl) (sub_bx 1 rfl) ?_
        refine JD_done (by kernel_rfl) ?_
        refine N_block ?_
        refine N_then ?_
        refine J_region ?_
        refine JL_q (wants_none rfl) rfl (ex_move rfl) ?_
        refine JL_q (wants_none rfl) rfl (ex_add rfl rfl) ?_
        refine JL_q (wants_none rfl) rfl (ex_assign rfl) ?_
        refine JL_nil ?_
        exact N_next' (v36, (g6_1 ++ (((x29 : Value).ownBlock.toList ++ []) ++ (((x32 : Value).ownBlock.toList ++ []) ++ [])))) ⟨rfl, rfl, rfl, rfl, trivial⟩ [17, 18, 19, 20] rfl rfl
      · refine JO_call rfl (wants_none rfl) rfl Try.call70 rfl (Ca_self (fun _ => rfl) fun w hh => c_spec_l00Own _ w (fun _ hk => hk.elim) _ _ (hh.rd0 5 rfl) _ hr28) (fun x37 => ?_)
        refine JD_bnd fun r38 hr39 => ?_
        refine JD_two (i := 1) (j := 19) (by kernel_rfl) ?_ ?_
        · refine JO_q rfl (wants_none rfl) rfl (ex_load_bx 16 ti_30 rfl rfl rfl) ?_
          refine JD_one (i := 19) (by kernel_rfl) ?_
          refine JO_call rfl (wants_none rfl) rfl Try.call70 rfl (Ca_self (fun _ => rfl) fun w hh => c_spec_l00Own _ w (fun _ hk => hk.elim) _ _ (hh.rd0 1 rfl) _ hr39) (fun x40 => ?_)
          refine JD_one (i := 20) (by kernel_rfl) ?_
          refine JO_q rfl (wants_none rfl) rfl (ex_build si_91 rfl (.cons fi_91_0 rfl rfl (.cons fi_91_1 rfl rfl .nil)) (fun w hh => ⟨(hh.cv_ow 1 rfl), (hh.cv_ow 0 rfl), trivial⟩)) ?_
          refine JD_one (i := 21) (by kernel_rfl) ?_
          refine JO_ctx (fun w hh => hh.tokf 1 rfl rfl) (tokf_owns (i := 1) rfl) ?_
          refine JO_ctx (fun w hh => hh.tokf 1 rfl rfl) (tokf_owns (i := 1) rfl) ?_
          refine JO_st rfl (wants_none rfl) rfl (st_buildSlice_od (vs := [.agg #[x37, x40]]) (B := (((x37 : Value).ownBlock.toList ++ []) ++ (((x40 : Value).ownBlock.toList ++ []) ++ []))) ([(⟨r27, r38⟩ : GTape)] : List GTape) [1, 0] Try.underlying30 ti_91 zi_91 rfl rfl rfl rfl rfl (fun w hh => (dwv_cons (GTape.dw (hh.dw 1 rfl) (hh.dw 0 rfl)) dwv_nil))) (fun _ hk => nomatch hk) (fun b41 => ?_)
          refine JD_bnd fun z42 hz43 => ?_
          refine JD_one (i := 22) (by kernel_rfl) ?_
          refine JO_st rfl (wants_none rfl) rfl (st_append_od 19 0 Try.underlying30 ti_91 zi_91 rfl bi_91 rfl rfl rfl rfl rfl rfl hz43) (sub_od 0 rfl) (fun v44 => ?_)
          refine JD_take (i := 23) hp24 rfl (by kernel_rfl) (by kernel_rfl) (by kernel_rfl) (wants_none rfl) rfl (ex_fieldAddr fi_32_1 rfl rfl) ?_
          refine JD_one (i := 24) (by kernel_rfl) ?_
          refine JO_sk rfl (wants_none rfl) (sk_store_bx' 20 ti_30 rfl rfl (fun w hh => (hh.cv_od 19 rfl)) rfl rfl rfl rfl) (sub_bx 1 rfl) ?_
          refine JD_done (by kernel_rfl) ?_
          refine N_block ?_
          refine N_then ?_
          refine J_region ?_
          refine JL_q (wants_none rfl) rfl (ex_move rfl) ?_
          refine JL_q (wants_none rfl) rfl (ex_add rfl rfl) ?_
          refine JL_q (wants_none rfl) rfl (ex_assign rfl) ?_
          refine JL_nil ?_
          exact N_next' (v44, (g6_1 ++ (((x37 : Value).ownBlock.toList ++ []) ++ (((x40 : Value).ownBlock.toList ++ []) ++ [])))) ⟨rfl, rfl, rfl, rfl, trivial⟩ [17, 18, 19, 20] rfl rfl
        · refine JO_call rfl (wants_none rfl) rfl Try.call70 rfl (Ca_self (fun _ => rfl) fun w hh => c_spec_l00Own _ w (fun _ hk => hk.elim) _ _ (hh.rd0 1 rfl) _ hr39) (fun x45 => ?_)
          refine JD_two (i := 1) (j := 20) (by kernel_rfl) ?_ ?_
          · refine JO_q rfl (wants_none rfl) rfl (ex_load_bx 17 ti_30 rfl rfl rfl) ?_
            refine JD_one (i := 20) (by kernel_rfl) ?_
            refine JO_q rfl (wants_none rfl) rfl (ex_build si_91 rfl (.cons fi_91_0 rfl rfl (.cons fi_91_1 rfl rfl .nil)) (fun w hh => ⟨(hh.cv_ow 1 rfl), (hh.cv_ow 0 rfl), trivial⟩)) ?_
            refine JD_one (i := 21) (by kernel_rfl) ?_
            refine JO_ctx (fun w hh => hh.tokf 1 rfl rfl) (tokf_owns (i := 1) rfl) ?_
            refine JO_ctx (fun w hh => hh.tokf 1 rfl rfl) (tokf_owns (i := 1) rfl) ?_
            refine JO_st rfl (wants_none rfl) rfl (st_buildSlice_od (vs := [.agg #[x37, x45]]) (B := (((x37 : Value).ownBlock.toList ++ []) ++ (((x45 : Value).ownBlock.toList ++ []) ++ []))) ([(⟨r27, r38⟩ : GTape)] : List GTape) [1, 0] Try.underlying30 ti_91 zi_91 rfl rfl rfl rfl rfl (fun w hh => (dwv_cons (GTape.dw (hh.dw 1 rfl) (hh.dw 0 rfl)) dwv_nil))) (fun _ hk => nomatch hk) (fun b46 => ?_)
            refine JD_bnd fun z47 hz48 => ?_
            refine JD_one (i := 22) (by kernel_rfl) ?_
            refine JO_st rfl (wants_none rfl) rfl (st_append_od 19 0 Try.underlying30 ti_91 zi_91 rfl bi_91 rfl rfl rfl rfl rfl rfl hz48) (sub_od 0 rfl) (fun v49 => ?_)
            refine JD_take (i := 23) hp24 rfl (by kernel_rfl) (by kernel_rfl) (by kernel_rfl) (wants_none rfl) rfl (ex_fieldAddr fi_32_1 rfl rfl) ?_
            refine JD_one (i := 24) (by kernel_rfl) ?_
            refine JO_sk rfl (wants_none rfl) (sk_store_bx' 20 ti_30 rfl rfl (fun w hh => (hh.cv_od 19 rfl)) rfl rfl rfl rfl) (sub_bx 1 rfl) ?_
            refine JD_done (by kernel_rfl) ?_
            refine N_block ?_
            refine N_then ?_
            refine J_region ?_
            refine JL_q (wants_none rfl) rfl (ex_move rfl) ?_
            refine JL_q (wants_none rfl) rfl (ex_add rfl rfl) ?_
            refine JL_q (wants_none rfl) rfl (ex_assign rfl) ?_
            refine JL_nil ?_
            exact N_next' (v49, (g6_1 ++ (((x37 : Value).ownBlock.toList ++ []) ++ (((x45 : Value).ownBlock.toList ++ []) ++ [])))) ⟨rfl, rfl, rfl, rfl, trivial⟩ [17, 18, 19, 20] rfl rfl
          · refine JO_q rfl (wants_none rfl) rfl (ex_build si_91 rfl (.cons fi_91_0 rfl rfl (.cons fi_91_1 rfl rfl .nil)) (fun w hh => ⟨(hh.cv_ow 1 rfl), (hh.cv_ow 0 rfl), trivial⟩)) ?_
            refine JD_two (i := 1) (j := 21) (by kernel_rfl) ?_ ?_
            · refine JO_q rfl (wants_none rfl) rfl (ex_load_bx 17 ti_30 rfl rfl rfl) ?_
              refine JD_one (i := 21) (by kernel_rfl) ?_
              refine JO_ctx (fun w hh => hh.tokf 1 rfl rfl) (tokf_owns (i := 1) rfl) ?_
              refine JO_ctx (fun w hh => hh.tokf 1 rfl rfl) (tokf_owns (i := 1) rfl) ?_
              refine JO_st rfl (wants_none rfl) rfl (st_buildSlice_od (vs := [.agg #[x37, x45]]) (B := (((x37 : Value).ownBlock.toList ++ []) ++ (((x45 : Value).ownBlock.toList ++ []) ++ []))) ([(⟨r27, r38⟩ : GTape)] : List GTape) [1, 0] Try.underlying30 ti_91 zi_91 rfl rfl rfl rfl rfl (fun w hh => (dwv_cons (GTape.dw (hh.dw 1 rfl) (hh.dw 0 rfl)) dwv_nil))) (fun _ hk => nomatch hk) (fun b50 => ?_)
              refine JD_bnd fun z51 hz52 => ?_
              refine JD_one (i := 22) (by kernel_rfl) ?_
              refine JO_st rfl (wants_none rfl) rfl (st_append_od 19 0 Try.underlying30 ti_91 zi_91 rfl bi_91 rfl rfl rfl rfl rfl rfl hz52) (sub_od 0 rfl) (fun v53 => ?_)
              refine JD_take (i := 23) hp24 rfl (by kernel_rfl) (by kernel_rfl) (by kernel_rfl) (wants_none rfl) rfl (ex_fieldAddr fi_32_1 rfl rfl) ?_
              refine JD_one (i := 24) (by kernel_rfl) ?_
              refine JO_sk rfl (wants_none rfl) (sk_store_bx' 20 ti_30 rfl rfl (fun w hh => (hh.cv_od 19 rfl)) rfl rfl rfl rfl) (sub_bx 1 rfl) ?_
              refine JD_done (by kernel_rfl) ?_
              refine N_block ?_
              refine N_then ?_
              refine J_region ?_
              refine JL_q (wants_none rfl) rfl (ex_move rfl) ?_
              refine JL_q (wants_none rfl) rfl (ex_add rfl rfl) ?_
              refine JL_q (wants_none rfl) rfl (ex_assign rfl) ?_
              refine JL_nil ?_
              exact N_next' (v53, (g6_1 ++ (((x37 : Value).ownBlock.toList ++ []) ++ (((x45 : Value).ownBlock.toList ++ []) ++ [])))) ⟨rfl, rfl, rfl, rfl, trivial⟩ [17, 18, 19, 20] rfl rfl
            · refine JO_ctx (fun w hh => hh.tokf 1 rfl rfl) (tokf_owns (i := 1) rfl) ?_
              refine JO_ctx (fun w hh => hh.tokf 1 rfl rfl) (tokf_owns (i := 1) rfl) ?_
              refine JO_st rfl (wants_none rfl) rfl (st_buildSlice_od (vs := [.agg #[x37, x45]]) (B := (((x37 : Value).ownBlock.toList ++ []) ++ (((x45 : Value).ownBlock.toList ++ []) ++ []))) ([(⟨r27, r38⟩ : GTape)] : List GTape) [1, 0] Try.underlying30 ti_91 zi_91 rfl rfl rfl rfl rfl (fun w hh => (dwv_cons (GTape.dw (hh.dw 1 rfl) (hh.dw 0 rfl)) dwv_nil))) (fun _ hk => nomatch hk) (fun b54 => ?_)
              refine JD_one (i := 1) (by kernel_rfl) ?_
              refine JO_q rfl (wants_none rfl) rfl (ex_load_bx 20 ti_30 rfl rfl rfl) ?_
              refine JD_bnd fun z55 hz56 => ?_
              refine JD_one (i := 22) (by kernel_rfl) ?_
              refine JO_st rfl (wants_none rfl) rfl (st_append_od 19 0 Try.underlying30 ti_91 zi_91 rfl bi_91 rfl rfl rfl rfl rfl rfl hz56) (sub_od 0 rfl) (fun v57 => ?_)
              refine JD_take (i := 23) hp24 rfl (by kernel_rfl) (by kernel_rfl) (by kernel_rfl) (wants_none rfl) rfl (ex_fieldAddr fi_32_1 rfl rfl) ?_
              refine JD_one (i := 24) (by kernel_rfl) ?_
              refine JO_sk rfl (wants_none rfl) (sk_store_bx' 20 ti_30 rfl rfl (fun w hh => (hh.cv_od 19 rfl)) rfl rfl rfl rfl) (sub_bx 1 rfl) ?_
              refine JD_done (by kernel_rfl) ?_
              refine N_block ?_
              refine N_then ?_
              refine J_region ?_
              refine JL_q (wants_none rfl) rfl (ex_move rfl) ?_
              refine JL_q (wants_none rfl) rfl (ex_add rfl rfl) ?_
              refine JL_q (wants_none rfl) rfl (ex_assign rfl) ?_
              refine JL_nil ?_
              exact N_next' (v57, (g6_1 ++ (((x37 : Value).ownBlock.toList ++ []) ++ (((x45 : Value).ownBlock.toList ++ []) ++ [])))) ⟨rfl, rfl, rfl, rfl, trivial⟩ [17, 18, 19, 20] rfl rfl
    · refine J_exit ?_
      refine N_then_exit ?_
      exact N_break' (g6_0, g6_1) ⟨rfl, rfl, rfl, rfl, trivial⟩ [2, 3, 4, 5] rfl rfl
  · obtain ⟨g6_0, g6_1⟩ := g6
    refine N_then ?_
    refine J_seq ?_
    refine J_region ?_
    refine JL_q (wants_none rfl) rfl (ex_load_bx_agg 3 ti_32 rfl rfl rfl rfl) ?_
    refine JL_sk (wants_none rfl) (sk_store_bx' 1 ti_32 rfl rfl (fun w hh => (cv_aggs ⟨cv_int, (hh.cv_od 2 rfl), trivial⟩)) rfl rfl rfl rfl) ?_
    refine JL_nil ?_
    refine N_then ?_
    refine J_ret ?_
    exact N_ret1 rfl (rv_cell 1 rfl rfl ti_32 rfl) (fun w hh => ⟨(g6_0, g6_1), rfl, hh.sel [2] rfl⟩)

end Go.Proofs.Ytomiabeodgcmcaa
