/-
  Each function of the program computes what its plain function says: printed by program. No condition.
-/
import Derived.Test.YtafjflnnkdbmdaaFn
import Derived.Test.YtafjflnnkdbmdaaInf
import Derived.Test.YtafjflnnkdbmdaaCon1
import Derived.Test.YtafjflnnkdbmdaaCon2
namespace Go.Proofs.Ytafjflnnkdbmdaa
open Go Go.Tc Go.Fn
set_option linter.unusedVariables false

set_option maxHeartbeats 40000000 in
theorem c_spec_OneTapeMachine (A : Nat → Prop) (w : World) (hA : ∀ k, A k → k < w.heap.size) (v0_ : Value) (p0 : GMulti) (hp0 : Rd A w v0_ p0) (r : GMachine × Int) (hr : F_spec_OneTapeMachine p0 = some r) :
    Con Try.prog 5 [v0_] A w (fun x_ : Value => .tuple #[.agg #[.int .i64 r.1.Symbols, .int .i64 r.1.States, x_], .int .i64 r.2]) (fun x_ => [.ow 91 x_ r.1.Rules]) := by
  obtain ⟨v0_0, rfl, hp0_0⟩ := GMulti.open hp0
  refine Con_of (v := fun (r : GMachine × Int) (x_ : Value) => .tuple #[.agg #[.int .i64 r.1.Symbols, .int .i64 r.1.States, x_], .int .i64 r.2]) (fs := fun r x_ => [.ow 91 x_ r.1.Rules]) Try.func5 rfl Try.ntmps5 rfl ((SH.start hA).start_rd rfl hp0_0) rfl ?_ hr
  unfold F_spec_OneTapeMachine
  refine J_seq ?_
  refine J_region ?_
  refine JL_st (wants_none rfl) rfl (st_box' rfl (fun w hh => (cv_aggs ⟨cv_int, cv_int, cv_int, (hh.cv 0 rfl), trivial⟩))) (fun b1 => ?_)
  refine JL_st (wants_none rfl) rfl (st_alloc zi_28 rfl) (fun b2 => ?_)
  refine JL_q (wants_none rfl) rfl (ex_assign rfl) ?_
  refine JL_nil ?_
  refine N_then ?_
  refine J_seq ?_
  refine J_seq ?_
  refine J_region ?_
  refine JL_bnd fun r3 hr4 => ?_
  refine JL_call (wants_none rfl) rfl Try.call14 rfl (Ca_of0 fun w hh => c_spec_l06Is _ w (fun _ hk => hk.elim) _ _ (hh.bx_pa 1 rfl (GMulti.rdmk (Rd.mk_int _ _ _) (Rd.mk_int _ _ _) (Rd.mk_int _ _ _) (hh.rd0 2 rfl)) rfl) _ hr4) (fun _ => ?_)
  refine JL_q (wants_none rfl) rfl (ex_not rfl) ?_
  refine JL_nil ?_
  refine N_then ?_
  refine J_if rfl (fun h5 => ?_) (fun h5 => ?_)
  · refine J_seq ?_
    refine J_region ?_
    refine JL_q (wants_none rfl) rfl (ex_build si_28 rfl .nil (fun w hh => trivial)) ?_
    refine JL_sk (wants_none rfl) (sk_store_bx' 0 ti_28 rfl rfl (fun w hh => (cv_aggs ⟨cv_int, cv_int, cv_slice, trivial⟩)) rfl rfl rfl rfl) ?_
    refine JL_q (wants_none rfl) rfl (ex_assign rfl) ?_
    refine JL_nil ?_
    refine N_then ?_
    refine J_ret ?_
    refine N_then_ret ?_
    refine N_ctx (fun w hh => SH.ow_nil (α := GRule) 91 hh) ?_
    exact N_ret2 rfl (rv_cell 1 rfl rfl ti_28 rfl) (rv_tmp rfl) (fun w hh => ⟨(.slice none 0 0 : Value), rfl, hh.sel [0] rfl⟩)
  · refine J_skip ?_
    refine N_then ?_
    refine J_seq ?_
    refine J_region ?_
    refine JL_inline (wants_none rfl) rfl Try.call15 rfl Try.func15 rfl Try.ntmps15 rfl rfl (fun K_ hK6 => ?_)
    refine J_seq ?_
    refine J_region ?_
    refine JL_q (wants_none rfl) rfl (ex_assign rfl) ?_
    refine JL_q (wants_none rfl) rfl (ex_assign rfl) ?_
    refine JL_nil ?_
    refine N_then ?_
    refine J_seq ?_
    refine J_region ?_
    refine JL_q (wants_none rfl) rfl (ex_move rfl) ?_
    refine JL_q (wants_none rfl) rfl (ex_build si_49 rfl (.cons fi_49_1 rfl rfl (.cons fi_49_2 rfl rfl .nil)) (fun w hh => ⟨cv_ptr, cv_int, trivial⟩)) ?_
    refine JL_st (wants_none rfl) rfl (st_box' rfl (fun w hh => (cv_aggs ⟨cv_ptr, cv_ptr, cv_int, cv_slice, cv_int, cv_int, cv_slice, trivial⟩))) (fun b7 => ?_)
    refine JL_q (wants_none rfl) rfl (ex_assign rfl) ?_
    refine JL_nil ?_
    refine N_then ?_
    refine J_seq ?_
    refine J_draw [0] (by kernel_rfl) ?_
    refine JP_take (i := 0) [1, 2, 3] [0] rfl (by kernel_rfl) (by kernel_rfl) (by kernel_rfl) rfl rfl (wants_none rfl) rfl (ex_move rfl) ?_
    refine JP_take (i := 1) [1, 2, 3] [0] rfl (by kernel_rfl) (by kernel_rfl) (by kernel_rfl) rfl rfl (wants_none rfl) rfl (ex_move rfl) ?_
    refine JP_take (i := 2) [1, 2, 3] [0] rfl (by kernel_rfl) (by kernel_rfl) (by kernel_rfl) rfl rfl (wants_none rfl) rfl (ex_nilCheck rfl) ?_
    refine JP_take (i := 3) [1, 2, 3] [0] rfl (by kernel_rfl) (by kernel_rfl) (by kernel_rfl) rfl rfl (wants_none rfl) rfl (ex_fieldAddr fi_33_1 rfl rfl) ?_
    refine JP_take (i := 4) [1, 2, 3] [0] rfl (by kernel_rfl) (by kernel_rfl) (by kernel_rfl) rfl rfl (wants_none rfl) rfl (ex_load_bx 1 ti_2 rfl rfl rfl) ?_
    refine JP_take (i := 5) [1, 2, 3] [0] rfl (by kernel_rfl) (by kernel_rfl) (by kernel_rfl) rfl rfl (wants_none rfl) rfl (ex_mul rfl rfl) ?_
    refine JP_take (i := 6) [1, 2, 3] [0] rfl (by kernel_rfl) (by kernel_rfl) (by kernel_rfl) rfl rfl (wants_none rfl) rfl (ex_move rfl) ?_
    refine JP_go [1, 2, 3] [0] rfl rfl rfl (fun w9 h1_10 hp8 => ?_)
    refine JD_bnd fun r11 hr12 => ?_
    refine JD_one (i := 7) (by kernel_rfl) ?_
    refine JO_call rfl (wants_none rfl) rfl Try.call30 rfl (Ca_self (fun _ => rfl) fun w hh => c_spec_l13Look _ w (fun _ hk => hk.elim) _ _ (hh.bx_pa 2 rfl (GMulti.rdmk (Rd.mk_int _ _ _) (Rd.mk_int _ _ _) (Rd.mk_int _ _ _) (hh.rd0 3 rfl)) rfl) _ _ hr12) (fun x13 => ?_)
    refine JD_one (i := 8) (by kernel_rfl) ?_
    refine JO_inline h1_10 [0] [1, 2] rfl rfl rfl rfl (wants_none rfl) rfl Try.call29 rfl Try.func29 rfl Try.ntmps29 rfl rfl (fun C15 K_ hK14 => ?_)
    refine J_seq ?_
    refine J_region ?_
    refine JL_q (wants_none rfl) rfl (ex_assign rfl) ?_
    refine JL_nil ?_
    refine N_then ?_
    refine J_seq ?_
    refine J_region ?_
    refine JL_q (wants_none rfl) rfl (ex_move rfl) ?_
    refine JL_q (wants_none rfl) rfl (ex_move rfl) ?_
    refine JL_ctx (fun w hh => hh.tokf 1 rfl rfl) ?_
    refine JL_st (wants_none rfl) rfl (st_buildSlice_od (vs := [x13]) (B := (((x13 : Value).ownBlock.toList ++ []) ++ [])) ([r11] : List (List Int)) [0] Try.underlying47 ti_64 zi_64 rfl rfl rfl rfl rfl (fun w hh => (dwv_cons (hh.dw 0 rfl) dwv_nil))) (fun b16 => ?_)
    refine JL_q (wants_none rfl) rfl (ex_nilCheck rfl) ?_
    refine JL_q (wants_none rfl) rfl (ex_fieldAddr fi_49_3 rfl rfl) ?_
    refine JL_sk (wants_none rfl) (sk_store_bx' 4 ti_47 rfl rfl (fun w hh => (hh.cv_od 0 rfl)) rfl rfl rfl rfl) ?_
    refine JL_nil ?_
    refine N_then ?_
    refine J_seq ?_
    refine J_region ?_
    refine JL_q (wants_none rfl) rfl (ex_move rfl) ?_
    refine JL_q (wants_none rfl) rfl (ex_move rfl) ?_
    refine JL_st (wants_none rfl) rfl (st_buildSlice (vs := []) ([] : List GRule) Try.underlying26 ti_91 zi_91 rfl rfl rfl (fun w hh => trivial)) (fun b17 => ?_)
    refine JL_q (wants_none rfl) rfl (ex_build si_28 rfl (.cons fi_28_0 rfl rfl (.cons fi_28_2 rfl rfl .nil)) (fun w hh => ⟨cv_int, (hh.cv_ow 0 rfl), trivial⟩)) ?_
    refine JL_q (wants_none rfl) rfl (ex_nilCheck rfl) ?_
    refine JL_q (wants_none rfl) rfl (ex_fieldAddr fi_49_4 rfl rfl) ?_
    refine JL_sk (wants_none rfl) (sk_store_bx' 5 ti_28 rfl rfl (fun w hh => (cv_aggs ⟨cv_int, cv_int, (hh.cv_ow 0 rfl), trivial⟩)) rfl rfl rfl rfl) ?_
    refine JL_nil ?_
    refine N_then ?_
    refine J_seq ?_
    refine J_seq ?_
    refine J_region ?_
    refine JL_q (wants_none rfl) rfl (ex_assign rfl) ?_
    refine JL_nil ?_
    refine N_then ?_
    refine J_loop' (S := (List (List Int)) × (List GRule) × Int) (G := Value × List Nat × Value) (F_spec_OneTapeMachine_L1 p0) (fun s18 g19 => [(0, .pointer (some ⟨b7, 0, none⟩)), (1, .int .i64 (w64 (2 * p0.Symbols))), (7, .int .i64 s18.2.2)]) (fun s18 g19 => [.fz w9 C15, .rd v0_0 p0.Rules, .bx b1 33 [.int .i64 p0.Tapes, .int .i64 p0.Symbols, .int .i64 p0.States, v0_0], .od 64 g19.1 s18.1 g19.2.1, .ow 91 g19.2.2 s18.2.1, .bx b7 49 [.pointer none, .pointer (some ⟨b1, 0, none⟩), .int .i64 2, g19.1, .int .i64 (w64 (2 * p0.Symbols)), .int .i64 0, g19.2.2], .bx b2 28 [.int .i64 0, .int .i64 0, .slice none 0 0]]) (([r11] : List (List Int)), ([] : List GRule), 0) ((.slice (some ⟨b16, 0, none⟩) 1 1), (((x13 : Value).ownBlock.toList ++ []) ++ []), (.slice (some ⟨b17, 0, none⟩) 0 0)) ⟨rfl, rfl, rfl, trivial⟩ [3, 8, 7, 1, 0, 5, 6] rfl rfl (fun s18 g19 => ?_) (fun s18 g19 => ?_)
    · obtain ⟨g19_0, g19_1, g19_2⟩ := g19
      unfold F_spec_OneTapeMachine_L1
      refine J_seq ?_
      refine J_seq ?_
      refine J_region ?_
      refine JL_q (wants_none rfl) rfl (ex_move rfl) ?_
      refine JL_q (wants_none rfl) rfl (ex_move rfl) ?_
      refine JL_q (wants_none rfl) rfl (ex_nilCheck rfl) ?_
      refine JL_q (wants_none rfl) rfl (ex_fieldAddr fi_49_3 rfl rfl) ?_
      refine JL_q (wants_none rfl) rfl (ex_load_bx 5 ti_47 rfl rfl rfl) ?_
      refine JL_q (wants_none rfl) rfl (ex_od 3 rfl (ex_len_ow 3 Try.underlying47 rfl rfl)) ?_
      refine JL_q (wants_none rfl) rfl (ex_lss rfl rfl) ?_
      refine JL_nil ?_
      refine N_then ?_
      refine J_if rfl (fun h20 => ?_) (fun h20 => ?_)
      · refine J_skip ?_
        refine N_then ?_
        refine J_seq ?_
        refine J_block ?_
        refine J_seq ?_
        refine J_region ?_
        refine JL_q (wants_none rfl) rfl (ex_assign rfl) ?_
        refine JL_nil ?_
        refine N_then ?_
        refine J_loop' (S := (List (List Int)) × (List GRule) × Int) (G := Value × List Nat × Value) (F_spec_OneTapeMachine_L2 p0 s18) (fun s21 g22 => [(0, .pointer (some ⟨b7, 0, none⟩)), (1, .int .i64 (w64 (2 * p0.Symbols))), (7, .int .i64 s18.2.2), (8, .int .i64 s21.2.2)]) (fun s21 g22 => [.fz w9 C15, .rd v0_0 p0.Rules, .bx b1 33 [.int .i64 p0.Tapes, .int .i64 p0.Symbols, .int .i64 p0.States, v0_0], .od 64 g22.1 s21.1 g22.2.1, .ow 91 g22.2.2 s21.2.1, .bx b7 49 [.pointer none, .pointer (some ⟨b1, 0, none⟩), .int .i64 2, g22.1, .int .i64 (w64 (2 * p0.Symbols)), .int .i64 0, g22.2.2], .bx b2 28 [.int .i64 0, .int .i64 0, .slice none 0 0]]) (s18.1, s18.2.1, 0) (g19_0, g19_1, g19_2) ⟨rfl, rfl, rfl, rfl, trivial⟩ [0, 1, 2, 3, 4, 5, 6] rfl rfl (fun s21 g22 => ?_) (fun s21 g22 => ?_)
        · obtain ⟨g22_0, g22_1, g22_2⟩ := g22
          unfold F_spec_OneTapeMachine_L2
          refine J_seq ?_
          refine J_seq ?_
          refine J_region ?_
          refine JL_q (wants_none rfl) rfl (ex_move rfl) ?_
          refine JL_q (wants_none rfl) rfl (ex_move rfl) ?_
          refine JL_q (wants_none rfl) rfl (ex_lss rfl rfl) ?_
          refine JL_nil ?_
          refine N_then ?_
          refine J_if rfl (fun h23 => ?_) (fun h23 => ?_)
          · refine J_skip ?_
            refine N_then ?_
            refine J_seq ?_
            refine J_block ?_
            refine J_seq ?_
            refine J_region ?_
            refine JL_q (wants_none rfl) rfl (ex_move rfl) ?_
            refine JL_q (wants_none rfl) rfl (ex_move rfl) ?_
            refine JL_q (wants_none rfl) rfl (ex_nilCheck rfl) ?_
            refine JL_q (wants_none rfl) rfl (ex_fieldAddr fi_49_3 rfl rfl) ?_
            refine JL_q (wants_none rfl) rfl (ex_load_bx 5 ti_47 rfl rfl rfl) ?_
            refine JL_q (wants_none rfl) rfl (ex_move rfl) ?_
            refine JL_bnd fun y24 hy25 => ?_
            refine JL_od_open (v := g22_0) 3 rfl hy25 ?_; rintro b26 cap27 rfl
            refine JL_q (wants_none rfl) rfl (ex_od 3 rfl (ex_index_ow 3 Try.underlying47 ti_64 rfl rfl rfl hy25)) ?_
            refine JL_st (wants_none rfl) rfl (st_od 3 rfl (st_load_ow_o 3 (opens_sl _) ti_64 rfl rfl hy25) (fun _ => rfl)) (fun v28 => ?_)
            refine JL_q (wants_none rfl) rfl (ex_move rfl) ?_
            refine JL_inline (wants_none rfl) rfl Try.call44 rfl Try.func44 rfl Try.ntmps44 rfl rfl (fun K_ hK29 => ?_)
            refine J_seq ?_
            refine J_region ?_
            refine JL_st (wants_none rfl) rfl (st_alloc zi_96 rfl) (fun b30 => ?_)
            refine JL_nil ?_
            refine N_then ?_
            refine J_seq ?_
            refine J_seq ?_
            refine J_region ?_
            refine JL_q (wants_none rfl) rfl (ex_move rfl) ?_
            refine JL_q (wants_none rfl) rfl (ex_nilCheck rfl) ?_
            refine JL_q (wants_none rfl) rfl (ex_fieldAddr fi_49_2 rfl rfl) ?_
            refine JL_q (wants_none rfl) rfl (ex_load_bx 7 ti_2 rfl rfl rfl) ?_
            refine JL_nil ?_
            refine N_then ?_
            refine J_block ?_
            refine J_seq ?_
            refine J_region ?_
            refine JL_q (wants_none rfl) rfl (ex_eql rfl rfl) ?_
            refine JL_q (wants_none rfl) rfl (ex_assign rfl) ?_
            refine JL_nil ?_
            refine N_then ?_
            refine J_if_false rfl (by decide) ?_
            refine J_seq ?_
            refine J_region ?_
            refine JL_q (wants_none rfl) rfl (ex_eql rfl rfl) ?_
            refine JL_q (wants_none rfl) rfl (ex_assign rfl) ?_
            refine JL_nil ?_
            refine N_then ?_
            refine J_if_true rfl (by decide) ?_
            refine J_seq ?_
            refine J_region ?_
            refine JL_q (wants_none rfl) rfl (ex_move rfl) ?_
            refine JL_q (wants_none rfl) rfl (ex_nilCheck rfl) ?_
            refine JL_q (wants_none rfl) rfl (ex_fieldAddr fi_49_1 rfl rfl) ?_
            refine JL_q (wants_none rfl) rfl (ex_load_bx 7 ti_42 rfl rfl rfl) ?_
            refine JL_q (wants_none rfl) rfl (ex_move rfl) ?_
            refine JL_q (wants_none rfl) rfl (ex_move rfl) ?_
            refine JL_bnd fun r31 hr32 => ?_
            refine JL_call (wants_none rfl) rfl Try.call61 rfl (Ca_self (fun _ => rfl) fun w hh => c_spec_l13Several _ w (fun _ hk => hk.elim) _ _ (hh.bx_pa 4 rfl (GMulti.rdmk (Rd.mk_int _ _ _) (Rd.mk_int _ _ _) (Rd.mk_int _ _ _) (hh.rd0 3 rfl)) rfl) _ _ (hh.rd0 1 rfl) _ _ hr32) (fun x33 => ?_)
            obtain ⟨x33_0, x33_1⟩ := x33
            refine JL_ctx (fun w hh => hh.tkn_rd 0 rfl) ?_
            refine JL_sk (wants_none rfl) (sk_store_bx' 2 ti_96 rfl rfl (fun w hh => (cv_aggs ⟨cv_bool, cv_int, cv_int, (hh.cv 0 rfl), trivial⟩)) rfl rfl rfl rfl) ?_
            refine JL_nil ?_
            refine N_then ?_
            refine J_ret ?_
            refine N_block_ret ?_
            refine N_then_ret ?_
            refine N_inl1 hK29 rfl (rv_cell 2 rfl rfl ti_96 rfl) ?_
            refine JL_st (wants_none rfl) rfl (st_alloc zi_96 rfl) (fun b34 => ?_)
            refine JL_sk (wants_none rfl) (sk_store_bx' 0 ti_96 rfl rfl (fun w hh => (cv_aggs ⟨cv_bool, cv_int, cv_int, (hh.cv 1 rfl), trivial⟩)) rfl rfl rfl rfl) ?_
            refine JL_nil ?_
            refine N_then ?_
            refine J_seq ?_
            refine J_seq ?_
            refine J_region ?_
            refine JL_q (wants_none rfl) rfl (ex_fieldAddr fi_96_0 rfl rfl) ?_
            refine JL_q (wants_none rfl) rfl (ex_load_bx 0 ti_4 rfl rfl rfl) ?_
            refine JL_q (wants_none rfl) rfl (ex_not rfl) ?_
            refine JL_nil ?_
            refine N_then ?_
            refine J_if rfl (fun h35 => ?_) (fun h35 => ?_)
            · refine J_seq ?_
              refine J_cut' (S' := (List GRule)) (G' := Value) (fun s36 g37 => [(0, .pointer (some ⟨b7, 0, none⟩)), (1, .int .i64 (w64 (2 * p0.Symbols))), (7, .int .i64 s18.2.2), (8, .int .i64 s21.2.2)]) (fun s36 g37 => [.fz w9 C15, .rd v0_0 p0.Rules, .bx b1 33 [.int .i64 p0.Tapes, .int .i64 p0.Symbols, .int .i64 p0.States, v0_0], .od 64 (.slice (some ⟨b26, 0, none⟩) s21.1.length cap27) s21.1 g22_1, .ow 91 g37 s36, .bx b7 49 [.pointer none, .pointer (some ⟨b1, 0, none⟩), .int .i64 2, (.slice (some ⟨b26, 0, none⟩) s21.1.length cap27), .int .i64 (w64 (2 * p0.Symbols)), .int .i64 0, g37], .bx b2 28 [.int .i64 0, .int .i64 0, .slice none 0 0]]) ?_ (fun s36 g37 => ?_)
              · refine J_draw [9, 10] (by kernel_rfl) ?_
                refine JP_take (i := 0) [0, 1, 2, 3, 4, 5, 6, 7, 8, 11] [9, 10] rfl (by kernel_rfl) (by kernel_rfl) (by kernel_rfl) rfl rfl (wants_none rfl) rfl (ex_move rfl) ?_
                refine JP_take (i := 1) [0, 1, 2, 3, 4, 5, 6, 7, 8, 11] [9, 10] rfl (by kernel_rfl) (by kernel_rfl) (by kernel_rfl) rfl rfl (wants_none rfl) rfl (ex_move rfl) ?_
                refine JP_take (i := 2) [0, 1, 2, 3, 4, 5, 6, 7, 8, 11] [9, 10] rfl (by kernel_rfl) (by kernel_rfl) (by kernel_rfl) rfl rfl (wants_none rfl) rfl (ex_nilCheck rfl) ?_
                refine JP_take (i := 3) [0, 1, 2, 3, 4, 5, 6, 7, 8, 11] [9, 10] rfl (by kernel_rfl) (by kernel_rfl) (by kernel_rfl) rfl rfl (wants_none rfl) rfl (ex_fieldAddr fi_49_4 rfl rfl) ?_
                refine JP_take (i := 4) [0, 1, 2, 3, 4, 5, 6, 7, 8, 11] [9, 10] rfl (by kernel_rfl) (by kernel_rfl) (by kernel_rfl) rfl rfl (wants_none rfl) rfl (ex_fieldAddr fi_28_2 rfl rfl) ?_
                refine JP_go [0, 1, 2, 3, 4, 5, 6, 7, 8, 11] [9, 10] rfl rfl rfl (fun w39 h1_40 hp38 => ?_)
                refine JD_bnd fun r41 hr42 => ?_
                refine JD_two (i := 5) (j := 6) (by kernel_rfl) ?_ ?_
                · refine JO_q rfl (wants_none rfl) rfl (ex_load_bx 10 ti_26 rfl rfl rfl) ?_
                  refine JD_one (i := 6) (by kernel_rfl) ?_
                  refine JO_call rfl (wants_none rfl) rfl Try.call45 rfl (Ca_of0 fun w hh => c_spec_l05None _ w (fun _ hk => hk.elim)  _ hr42) (fun _ => ?_)
                  refine JD_one (i := 7) (by kernel_rfl) ?_
                  refine JO_st rfl (wants_none rfl) rfl (st_buildSlice (vs := [.agg #[.int .i64 r41.Write, .int .i64 r41.Move, .int .i64 r41.Next]]) ([r41] : List GRule) Try.underlying26 ti_91 zi_91 rfl rfl rfl (fun w hh => ⟨(GRule.rdmk (Rd.mk_int _ _ _) (Rd.mk_int _ _ _) (Rd.mk_int _ _ _)), trivial⟩)) (fun _ hk => nomatch hk) (fun b43 => ?_)
                  refine JD_bnd fun z44 hz45 => ?_
                  refine JD_one (i := 8) (by kernel_rfl) ?_
                  refine JO_st rfl (wants_none rfl) rfl (st_append 10 Try.underlying26 ti_91 zi_91 rfl bi_91 rfl rfl rfl rfl (fun w hh => hh.src_ow 0 rfl) hz45) (sub_ow 0 rfl) (fun v46 => ?_)
                  refine JD_take (i := 9) hp38 rfl (by kernel_rfl) (by kernel_rfl) (by kernel_rfl) (wants_none rfl) rfl (ex_nilCheck rfl) ?_
                  refine JD_take (i := 10) hp38 rfl (by kernel_rfl) (by kernel_rfl) (by kernel_rfl) (wants_none rfl) rfl (ex_fieldAddr fi_49_4 rfl rfl) ?_
                  refine JD_take (i := 11) hp38 rfl (by kernel_rfl) (by kernel_rfl) (by kernel_rfl) (wants_none rfl) rfl (ex_fieldAddr fi_28_2 rfl rfl) ?_
                  refine JD_one (i := 12) (by kernel_rfl) ?_
                  refine JO_sk rfl (wants_none rfl) (sk_store_bx' 11 ti_26 rfl rfl (fun w hh => (hh.cv_ow 10 rfl)) rfl rfl rfl rfl) (sub_bx 1 rfl) ?_
                  refine JD_done (by kernel_rfl) ?_
                  exact N_meet' v46 ⟨rfl, rfl, rfl, rfl, trivial⟩ [6, 7, 8, 9, 10, 11, 12] rfl rfl
                · refine JO_call rfl (wants_none rfl) rfl Try.call45 rfl (Ca_of0 fun w hh => c_spec_l05None _ w (fun _ hk => hk.elim)  _ hr42) (fun _ => ?_)
                  refine JD_two (i := 5) (j := 7) (by kernel_rfl) ?_ ?_
                  · refine JO_q rfl (wants_none rfl) rfl (ex_load_bx 10 ti_26 rfl rfl rfl) ?_
                    refine JD_one (i := 7) (by kernel_rfl) ?_
                    refine JO_st rfl (wants_none rfl) rfl (st_buildSlice (vs := [.agg #[.int .i64 r41.Write, .int .i64 r41.Move, .int .i64 r41.Next]]) ([r41] : List GRule) Try.underlying26 ti_91 zi_91 rfl rfl rfl (fun w hh => ⟨(GRule.rdmk (Rd.mk_int _ _ _) (Rd.mk_int _ _ _) (Rd.mk_int _ _ _)), trivial⟩)) (fun _ hk => nomatch hk) (fun b47 => ?_)
                    refine JD_bnd fun z48 hz49 => ?_
                    refine JD_one (i := 8) (by kernel_rfl) ?_
                    refine JO_st rfl (wants_none rfl) rfl (st_append 10 Try.underlying26 ti_91 zi_91 rfl bi_91 rfl rfl rfl rfl (fun w hh => hh.src_ow 0 rfl) hz49) (sub_ow 0 rfl) (fun v50 => ?_)
                    refine JD_take (i := 9) hp38 rfl (by kernel_rfl) (by kernel_rfl) (by kernel_rfl) (wants_none rfl) rfl (ex_nilCheck rfl) ?_
                    refine JD_take (i := 10) hp38 rfl (by kernel_rfl) (by kernel_rfl) (by kernel_rfl) (wants_none rfl) rfl (ex_fieldAddr fi_49_4 rfl rfl) ?_
                    refine JD_take (i := 11) hp38 rfl (by kernel_rfl) (by kernel_rfl) (by kernel_rfl) (wants_none rfl) rfl (ex_fieldAddr fi_28_2 rfl rfl) ?_
                    refine JD_one (i := 12) (by kernel_rfl) ?_
                    refine JO_sk rfl (wants_none rfl) (sk_store_bx' 11 ti_26 rfl rfl (fun w hh => (hh.cv_ow 10 rfl)) rfl rfl rfl rfl) (sub_bx 1 rfl) ?_
                    refine JD_done (by kernel_rfl) ?_
                    exact N_meet' v50 ⟨rfl, rfl, rfl, rfl, trivial⟩ [6, 7, 8, 9, 10, 11, 12] rfl rfl
                  · refine JO_st rfl (wants_none rfl) rfl (st_buildSlice (vs := [.agg #[.int .i64 r41.Write, .int .i64 r41.Move, .int .i64 r41.Next]]) ([r41] : List GRule) Try.underlying26 ti_91 zi_91 rfl rfl rfl (fun w hh => ⟨(GRule.rdmk (Rd.mk_int _ _ _) (Rd.mk_int _ _ _) (Rd.mk_int _ _ _)), trivial⟩)) (fun _ hk => nomatch hk) (fun b51 => ?_)
                    refine JD_one (i := 5) (by kernel_rfl) ?_
                    refine JO_q rfl (wants_none rfl) rfl (ex_load_bx 11 ti_26 rfl rfl rfl) ?_
                    refine JD_bnd fun z52 hz53 => ?_
                    refine JD_one (i := 8) (by kernel_rfl) ?_
                    refine JO_st rfl (wants_none rfl) rfl (st_append 10 Try.underlying26 ti_91 zi_91 rfl bi_91 rfl rfl rfl rfl (fun w hh => hh.src_ow 0 rfl) hz53) (sub_ow 0 rfl) (fun v54 => ?_)
                    refine JD_take (i := 9) hp38 rfl (by kernel_rfl) (by kernel_rfl) (by kernel_rfl) (wants_none rfl) rfl (ex_nilCheck rfl) ?_
                    refine JD_take (i := 10) hp38 rfl (by kernel_rfl) (by kernel_rfl) (by kernel_rfl) (wants_none rfl) rfl (ex_fieldAddr fi_49_4 rfl rfl) ?_
                    refine JD_take (i := 11) hp38 rfl (by kernel_rfl) (by kernel_rfl) (by kernel_rfl) (wants_none rfl) rfl (ex_fieldAddr fi_28_2 rfl rfl) ?_
                    refine JD_one (i := 12) (by kernel_rfl) ?_
                    refine JO_sk rfl (wants_none rfl) (sk_store_bx' 11 ti_26 rfl rfl (fun w hh => (hh.cv_ow 10 rfl)) rfl rfl rfl rfl) (sub_bx 1 rfl) ?_
                    refine JD_done (by kernel_rfl) ?_
                    exact N_meet' v54 ⟨rfl, rfl, rfl, rfl, trivial⟩ [6, 7, 8, 9, 10, 11, 12] rfl rfl
              · refine N_then ?_
                refine J_exit ?_
                refine N_then_exit ?_
                refine N_block_exit ?_
                refine N_then ?_
                refine J_region ?_
                refine JL_q (wants_none rfl) rfl (ex_move rfl) ?_
                refine JL_q (wants_none rfl) rfl (ex_add rfl rfl) ?_
                refine JL_q (wants_none rfl) rfl (ex_assign rfl) ?_
                refine JL_nil ?_
                exact N_next' ((.slice (some ⟨b26, 0, none⟩) s21.1.length cap27), g22_1, g37) ⟨rfl, rfl, rfl, rfl, trivial⟩ [0, 1, 2, 3, 4, 5, 6] rfl rfl
            · refine J_skip ?_
              refine N_then ?_
              refine J_seq ?_
              refine J_region ?_
              refine JL_q (wants_none rfl) rfl (ex_move rfl) ?_
              refine JL_q (wants_none rfl) rfl (ex_fieldAddr fi_96_3 rfl rfl) ?_
              refine JL_q (wants_none rfl) rfl (ex_load_bx 0 ti_64 rfl rfl rfl) ?_
              refine JL_inline (wants_none rfl) rfl Try.call46 rfl Try.func46 rfl Try.ntmps46 rfl rfl (fun K_ hK55 => ?_)
              refine J_seq ?_
              refine J_region ?_
              refine JL_q (wants_none rfl) rfl (ex_assign rfl) ?_
              refine JL_nil ?_
              refine N_then ?_
              refine J_seq ?_
              refine J_seq ?_
              refine J_region ?_
              refine JL_q (wants_none rfl) rfl (ex_assign rfl) ?_
              refine JL_nil ?_
              refine N_then ?_
              refine J_loop' (S := Int) (G := Unit) (F_spec_OneTapeMachine_L3 s21 r31) (fun s56 _ => [(0, .pointer (some ⟨b7, 0, none⟩)), (1, x33_0), (5, .int .i64 s56)]) (fun s56 _ => [.fz w9 C15, .rd v0_0 p0.Rules, .bx b1 33 [.int .i64 p0.Tapes, .int .i64 p0.Symbols, .int .i64 p0.States, v0_0], .od 64 (.slice (some ⟨b26, 0, none⟩) s21.1.length cap27) s21.1 g22_1, .ow 91 g22_2 s21.2.1, .bx b7 49 [.pointer none, .pointer (some ⟨b1, 0, none⟩), .int .i64 2, (.slice (some ⟨b26, 0, none⟩) s21.1.length cap27), .int .i64 (w64 (2 * p0.Symbols)), .int .i64 0, g22_2], .rd x33_0 r31.next, .tkn x33_0 r31.next x33_1, .bx b2 28 [.int .i64 0, .int .i64 0, .slice none 0 0], .bx b34 96 [.bool r31.ok, .int .i64 r31.write, .int .i64 r31.move, x33_0]]) 0 () ⟨rfl, rfl, rfl, trivial⟩ [5, 6, 7, 8, 9, 10, 1, 2, 11, 0] rfl rfl (fun s56 g57 => ?_) (fun s56 g57 => ?_)
              · unfold F_spec_OneTapeMachine_L3
                refine J_seq ?_
                refine J_seq ?_
                refine J_region ?_
                refine JL_q (wants_none rfl) rfl (ex_move rfl) ?_
                refine JL_q (wants_none rfl) rfl (ex_move rfl) ?_
                refine JL_q (wants_none rfl) rfl (ex_nilCheck rfl) ?_
                refine JL_q (wants_none rfl) rfl (ex_fieldAddr fi_49_3 rfl rfl) ?_
                refine JL_q (wants_none rfl) rfl (ex_load_bx 5 ti_47 rfl rfl rfl) ?_
                refine JL_q (wants_none rfl) rfl (ex_od 3 rfl (ex_len_ow 3 Try.underlying47 rfl rfl)) ?_
                refine JL_q (wants_none rfl) rfl (ex_lss rfl rfl) ?_
                refine JL_nil ?_
                refine N_then ?_
                refine J_if rfl (fun h58 => ?_) (fun h58 => ?_)
                · refine J_skip ?_
                  refine N_then ?_
                  refine J_seq ?_
                  refine J_block ?_
                  refine J_seq ?_
                  refine J_region ?_
                  refine JL_q (wants_none rfl) rfl (ex_move rfl) ?_
                  refine JL_q (wants_none rfl) rfl (ex_nilCheck rfl) ?_
                  refine JL_q (wants_none rfl) rfl (ex_fieldAddr fi_49_3 rfl rfl) ?_
                  refine JL_q (wants_none rfl) rfl (ex_load_bx 5 ti_47 rfl rfl rfl) ?_
                  refine JL_q (wants_none rfl) rfl (ex_move rfl) ?_
                  refine JL_bnd fun y59 hy60 => ?_
                  refine JL_q (wants_none rfl) rfl (ex_od 3 rfl (ex_index_ow 3 Try.underlying47 ti_64 rfl rfl rfl hy60)) ?_
                  refine JL_st (wants_none rfl) rfl (st_od 3 rfl (st_load_ow_o 3 (opens_sl _) ti_64 rfl rfl hy60) (fun _ => rfl)) (fun v61 => ?_)
                  refine JL_q (wants_none rfl) rfl (ex_move rfl) ?_
                  refine JL_bnd fun r62 hr63 => ?_
                  refine JL_call (wants_none rfl) rfl Try.call63 rfl (Ca_of0 fun w hh => c_spec_l00Same _ w (fun _ hk => hk.elim) _ _ (hh.rd0 0 rfl) _ _ (hh.rd0 7 rfl) _ hr63) (fun _ => ?_)
                  refine JL_nil ?_
                  refine N_then ?_
                  refine J_if rfl (fun h64 => ?_) (fun h64 => ?_)
                  · refine J_seq ?_
                    refine J_region ?_
                    refine JL_q (wants_none rfl) rfl (ex_move rfl) ?_
                    refine JL_q (wants_none rfl) rfl (ex_assign rfl) ?_
                    refine JL_nil ?_
                    refine N_then ?_
                    refine J_ret ?_
                    refine N_block_ret ?_
                    refine N_then_ret ?_
                    refine N_round_reti ?_
                    refine N_then_ret ?_
                    refine N_inl1 hK55 rfl (rv_tmp rfl) ?_
                    refine JL_q (wants_none rfl) rfl (ex_assign rfl) ?_
                    refine JL_nil ?_
                    refine N_then ?_
                    refine J_seq ?_
                    refine J_cut' (S' := (List (List Int)) × Int) (G' := Value × List Nat) (fun s65 g66 => [(0, .pointer (some ⟨b7, 0, none⟩)), (1, .int .i64 (w64 (2 * p0.Symbols))), (7, .int .i64 s18.2.2), (8, .int .i64 s21.2.2), (9, .pointer (some ⟨b34, 0, none⟩)), (10, .int .i64 s65.2)]) (fun s65 g66 => [.fz w9 C15, .rd v0_0 p0.Rules, .bx b1 33 [.int .i64 p0.Tapes, .int .i64 p0.Symbols, .int .i64 p0.States, v0_0], .od 64 g66.1 s65.1 g66.2, .ow 91 g22_2 s21.2.1, .bx b7 49 [.pointer none, .pointer (some ⟨b1, 0, none⟩), .int .i64 2, g66.1, .int .i64 (w64 (2 * p0.Symbols)), .int .i64 0, g22_2], .rd x33_0 r31.next, .bx b34 96 [.bool r31.ok, .int .i64 r31.write, .int .i64 r31.move, x33_0], .bx b2 28 [.int .i64 0, .int .i64 0, .slice none 0 0]]) ?_ (fun s65 g66 => ?_)
                    · refine J_seq ?_
                      refine J_region ?_
                      refine JL_q (wants_none rfl) rfl (ex_move rfl) ?_
                      refine JL_q (wants_none rfl) rfl (ex_lss rfl rfl) ?_
                      refine JL_nil ?_
                      refine N_then ?_
                      refine J_if rfl (fun h67 => ?_) (fun h67 => ?_)
                      · refine J_seq ?_
                        refine J_seq ?_
                        refine J_region ?_
                        refine JL_q (wants_none rfl) rfl (ex_move rfl) ?_
                        refine JL_q (wants_none rfl) rfl (ex_nilCheck rfl) ?_
                        refine JL_q (wants_none rfl) rfl (ex_fieldAddr fi_49_3 rfl rfl) ?_
                        refine JL_q (wants_none rfl) rfl (ex_load_bx 6 ti_47 rfl rfl rfl) ?_
                        refine JL_q (wants_none rfl) rfl (ex_od 4 rfl (ex_len_ow 4 Try.underlying47 rfl rfl)) ?_
                        refine JL_q (wants_none rfl) rfl (ex_eql rfl rfl) ?_
                        refine JL_nil ?_
                        refine N_then ?_
                        refine J_if rfl (fun h68 => ?_) (fun h68 => ?_)
                        · refine J_seq ?_
                          refine J_region ?_
                          refine JL_q (wants_none rfl) rfl (ex_assign rfl) ?_
                          refine JL_nil ?_
                          refine N_then ?_
                          refine J_ret ?_
                          refine N_then_ret ?_
                          refine N_mid_ret ?_
                          refine N_then_ret ?_
                          refine N_block_ret ?_
                          refine N_then_ret ?_
                          refine N_round_ret ?_
                          refine N_block_ret ?_
                          refine N_then_ret ?_
                          refine N_round_reti ?_
                          refine N_then_ret ?_
                          refine N_inlD1 hK14 rfl (rv_tmp rfl) 1 [9, 3] rfl rfl ?_
                          refine JD_take (i := 9) hp8 rfl (by kernel_rfl) (by kernel_rfl) (by kernel_rfl) (wants_none rfl) rfl (ex_assign rfl) ?_
                          refine JD_done (by kernel_rfl) ?_
                          refine N_then ?_
                          refine J_seq ?_
                          refine J_region ?_
                          refine JL_q (wants_none rfl) rfl (ex_move rfl) ?_
                          refine JL_q (wants_none rfl) rfl (ex_move rfl) ?_
                          refine JL_q (wants_none rfl) rfl (ex_assign rfl) ?_
                          refine JL_q (wants_none rfl) rfl (ex_assign rfl) ?_
                          refine JL_nil ?_
                          refine N_then ?_
                          refine J_ret ?_
                          refine N_inl2 hK6 rfl (rv_tmp rfl) (rv_tmp rfl) ?_
                          refine JL_q (wants_none rfl) rfl (ex_move rfl) ?_
                          refine JL_q (wants_none rfl) rfl (ex_extract rfl rfl) ?_
                          refine JL_q (wants_none rfl) rfl (ex_extract rfl rfl) ?_
                          refine JL_q (wants_none rfl) rfl (ex_assign rfl) ?_
                          refine JL_q (wants_none rfl) rfl (ex_assign rfl) ?_
                          refine JL_nil ?_
                          refine N_then ?_
                          refine J_seq ?_
                          refine J_seq ?_
                          refine J_region ?_
                          refine JL_q (wants_none rfl) rfl (ex_move rfl) ?_
                          refine JL_q (wants_none rfl) rfl (ex_not rfl) ?_
                          refine JL_nil ?_
                          refine N_then ?_
                          refine J_if_true rfl rfl ?_
                          refine J_seq ?_
                          refine J_region ?_
                          refine JL_q (wants_none rfl) rfl (ex_build si_28 rfl .nil (fun w hh => trivial)) ?_
                          refine JL_sk (wants_none rfl) (sk_store_bx' 9 ti_28 rfl rfl (fun w hh => (cv_aggs ⟨cv_int, cv_int, cv_slice, trivial⟩)) rfl rfl rfl rfl) ?_
                          refine JL_q (wants_none rfl) rfl (ex_assign rfl) ?_
                          refine JL_nil ?_
                          refine N_then ?_
                          refine J_ret ?_
                          refine N_then_ret ?_
                          refine N_ctx (fun w hh => SH.ow_nil (α := GRule) 91 hh) ?_
                          exact N_ret2 rfl (rv_cell 10 rfl rfl ti_28 rfl) (rv_tmp rfl) (fun w hh => ⟨(.slice none 0 0 : Value), rfl, hh.sel [0] rfl⟩)
                        · refine J_skip ?_
                          refine N_then ?_
                          refine J_seq ?_
                          refine J_region ?_
                          refine JL_q (wants_none rfl) rfl (ex_move rfl) ?_
                          refine JL_q (wants_none rfl) rfl (ex_nilCheck rfl) ?_
                          refine JL_q (wants_none rfl) rfl (ex_fieldAddr fi_49_3 rfl rfl) ?_
                          refine JL_q (wants_none rfl) rfl (ex_load_bx 6 ti_47 rfl rfl rfl) ?_
                          refine JL_q (wants_none rfl) rfl (ex_od 4 rfl (ex_len_ow 4 Try.underlying47 rfl rfl)) ?_
                          refine JL_q (wants_none rfl) rfl (ex_assign rfl) ?_
                          refine JL_nil ?_
                          refine N_then ?_
                          refine J_draw [4, 6] (by kernel_rfl) ?_
                          refine JP_take (i := 0) [0, 1, 2, 3, 5, 7, 8, 9, 10] [4, 6] rfl (by kernel_rfl) (by kernel_rfl) (by kernel_rfl) rfl rfl (wants_none rfl) rfl (ex_move rfl) ?_
                          refine JP_take (i := 1) [0, 1, 2, 3, 5, 7, 8, 9, 10] [4, 6] rfl (by kernel_rfl) (by kernel_rfl) (by kernel_rfl) rfl rfl (wants_none rfl) rfl (ex_move rfl) ?_
                          refine JP_take (i := 2) [0, 1, 2, 3, 5, 7, 8, 9, 10] [4, 6] rfl (by kernel_rfl) (by kernel_rfl) (by kernel_rfl) rfl rfl (wants_none rfl) rfl (ex_nilCheck rfl) ?_
                          refine JP_take (i := 3) [0, 1, 2, 3, 5, 7, 8, 9, 10] [4, 6] rfl (by kernel_rfl) (by kernel_rfl) (by kernel_rfl) rfl rfl (wants_none rfl) rfl (ex_fieldAddr fi_49_3 rfl rfl) ?_
                          refine JP_take (i := 5) [0, 1, 2, 3, 5, 7, 8, 9, 10] [4, 6] rfl (by kernel_rfl) (by kernel_rfl) (by kernel_rfl) rfl rfl (wants_none rfl) rfl (ex_fieldAddr fi_96_3 rfl rfl) ?_
                          refine JP_take (i := 6) [0, 1, 2, 3, 5, 7, 8, 9, 10] [4, 6] rfl (by kernel_rfl) (by kernel_rfl) (by kernel_rfl) rfl rfl (wants_none rfl) rfl (ex_load_bx 8 ti_64 rfl rfl rfl) ?_
                          refine JP_go [0, 1, 2, 3, 5, 7, 8, 9, 10] [4, 6] rfl rfl rfl (fun w70 h1_71 hp69 => ?_)
                          refine JD_two (i := 4) (j := 7) (by kernel_rfl) ?_ ?_
                          · refine JO_q rfl (wants_none rfl) rfl (ex_load_bx 6 ti_47 rfl rfl rfl) ?_
                            refine JD_one (i := 7) (by kernel_rfl) ?_
                            refine JO_st rfl (wants_none rfl) rfl (st_buildSlice_od (vs := [x33_0]) (B := (x33_1 ++ [])) ([r31.next] : List (List Int)) [8] Try.underlying47 ti_64 zi_64 rfl rfl rfl rfl rfl (fun w hh => (dwv_cons (hh.dw 8 rfl) dwv_nil))) (fun _ hk => nomatch hk) (fun b72 => ?_)
                            refine JD_bnd fun z73 hz74 => ?_
                            refine JD_one (i := 8) (by kernel_rfl) ?_
                            refine JO_st rfl (wants_none rfl) rfl (st_append_od 5 0 Try.underlying47 ti_64 zi_64 rfl bi_64 rfl rfl rfl rfl rfl rfl hz74) (sub_od 0 rfl) (fun v75 => ?_)
                            refine JD_take (i := 9) hp69 rfl (by kernel_rfl) (by kernel_rfl) (by kernel_rfl) (wants_none rfl) rfl (ex_nilCheck rfl) ?_
                            refine JD_take (i := 10) hp69 rfl (by kernel_rfl) (by kernel_rfl) (by kernel_rfl) (wants_none rfl) rfl (ex_fieldAddr fi_49_3 rfl rfl) ?_
                            refine JD_one (i := 11) (by kernel_rfl) ?_
                            refine JO_sk rfl (wants_none rfl) (sk_store_bx' 7 ti_47 rfl rfl (fun w hh => (hh.cv_od 5 rfl)) rfl rfl rfl rfl) (sub_bx 1 rfl) ?_
                            refine JD_done (by kernel_rfl) ?_
                            exact N_meet' (v75, (g22_1 ++ (x33_1 ++ []))) ⟨rfl, rfl, rfl, rfl, rfl, rfl, trivial⟩ [2, 3, 4, 5, 6, 7, 8, 11, 10] rfl rfl
                          · refine JO_st rfl (wants_none rfl) rfl (st_buildSlice_od (vs := [x33_0]) (B := (x33_1 ++ [])) ([r31.next] : List (List Int)) [8] Try.underlying47 ti_64 zi_64 rfl rfl rfl rfl rfl (fun w hh => (dwv_cons (hh.dw 8 rfl) dwv_nil))) (fun _ hk => nomatch hk) (fun b76 => ?_)
                            refine JD_one (i := 4) (by kernel_rfl) ?_
                            refine JO_q rfl (wants_none rfl) rfl (ex_load_bx 7 ti_47 rfl rfl rfl) ?_
                            refine JD_bnd fun z77 hz78 => ?_
                            refine JD_one (i := 8) (by kernel_rfl) ?_
                            refine JO_st rfl (wants_none rfl) rfl (st_append_od 5 0 Try.underlying47 ti_64 zi_64 rfl bi_64 rfl rfl rfl rfl rfl rfl hz78) (sub_od 0 rfl) (fun v79 => ?_)
                            refine JD_take (i := 9) hp69 rfl (by kernel_rfl) (by kernel_rfl) (by kernel_rfl) (wants_none rfl) rfl (ex_nilCheck rfl) ?_
                            refine JD_take (i := 10) hp69 rfl (by kernel_rfl) (by kernel_rfl) (by kernel_rfl) (wants_none rfl) rfl (ex_fieldAddr fi_49_3 rfl rfl) ?_
                            refine JD_one (i := 11) (by kernel_rfl) ?_
                            refine JO_sk rfl (wants_none rfl) (sk_store_bx' 7 ti_47 rfl rfl (fun w hh => (hh.cv_od 5 rfl)) rfl rfl rfl rfl) (sub_bx 1 rfl) ?_
                            refine JD_done (by kernel_rfl) ?_
                            exact N_meet' (v79, (g22_1 ++ (x33_1 ++ []))) ⟨rfl, rfl, rfl, rfl, rfl, rfl, trivial⟩ [2, 3, 4, 5, 6, 7, 8, 11, 10] rfl rfl
                      · refine J_skip ?_
                        exact N_meet' ((.slice (some ⟨b26, 0, none⟩) s21.1.length cap27), g22_1) ⟨rfl, rfl, rfl, rfl, rfl, rfl, trivial⟩ [1, 2, 3, 4, 5, 6, 7, 10, 9] rfl rfl
                    · obtain ⟨g66_0, g66_1⟩ := g66
                      refine N_then ?_
                      refine J_draw [4, 5] (by kernel_rfl) ?_
                      refine JP_take (i := 0) [0, 1, 2, 3, 6, 7, 8] [4, 5] rfl (by kernel_rfl) (by kernel_rfl) (by kernel_rfl) rfl rfl (wants_none rfl) rfl (ex_move rfl) ?_
                      refine JP_take (i := 1) [0, 1, 2, 3, 6, 7, 8] [4, 5] rfl (by kernel_rfl) (by kernel_rfl) (by kernel_rfl) rfl rfl (wants_none rfl) rfl (ex_move rfl) ?_
                      refine JP_take (i := 2) [0, 1, 2, 3, 6, 7, 8] [4, 5] rfl (by kernel_rfl) (by kernel_rfl) (by kernel_rfl) rfl rfl (wants_none rfl) rfl (ex_nilCheck rfl) ?_
                      refine JP_take (i := 3) [0, 1, 2, 3, 6, 7, 8] [4, 5] rfl (by kernel_rfl) (by kernel_rfl) (by kernel_rfl) rfl rfl (wants_none rfl) rfl (ex_fieldAddr fi_49_4 rfl rfl) ?_
                      refine JP_take (i := 4) [0, 1, 2, 3, 6, 7, 8] [4, 5] rfl (by kernel_rfl) (by kernel_rfl) (by kernel_rfl) rfl rfl (wants_none rfl) rfl (ex_fieldAddr fi_28_2 rfl rfl) ?_
                      refine JP_take (i := 6) [0, 1, 2, 3, 6, 7, 8] [4, 5] rfl (by kernel_rfl) (by kernel_rfl) (by kernel_rfl) rfl rfl (wants_none rfl) rfl (ex_fieldAddr fi_96_1 rfl rfl) ?_
                      refine JP_take (i := 7) [0, 1, 2, 3, 6, 7, 8] [4, 5] rfl (by kernel_rfl) (by kernel_rfl) (by kernel_rfl) rfl rfl (wants_none rfl) rfl (ex_load_bx 5 ti_2 rfl rfl rfl) ?_
                      refine JP_take (i := 8) [0, 1, 2, 3, 6, 7, 8] [4, 5] rfl (by kernel_rfl) (by kernel_rfl) (by kernel_rfl) rfl rfl (wants_none rfl) rfl (ex_fieldAddr fi_96_2 rfl rfl) ?_
                      refine JP_take (i := 9) [0, 1, 2, 3, 6, 7, 8] [4, 5] rfl (by kernel_rfl) (by kernel_rfl) (by kernel_rfl) rfl rfl (wants_none rfl) rfl (ex_load_bx 5 ti_2 rfl rfl rfl) ?_
                      refine JP_take (i := 10) [0, 1, 2, 3, 6, 7, 8] [4, 5] rfl (by kernel_rfl) (by kernel_rfl) (by kernel_rfl) rfl rfl (wants_none rfl) rfl (ex_move rfl) ?_
                      refine JP_take (i := 11) [0, 1, 2, 3, 6, 7, 8] [4, 5] rfl (by kernel_rfl) (by kernel_rfl) (by kernel_rfl) rfl rfl (wants_none rfl) rfl (ex_build si_91 rfl (.cons fi_91_0 rfl rfl (.cons fi_91_1 rfl rfl (.cons fi_91_2 rfl rfl .nil))) (fun w hh => ⟨cv_int, cv_int, cv_int, trivial⟩)) ?_
                      refine JP_go [0, 1, 2, 3, 6, 7, 8] [4, 5] rfl rfl rfl (fun w81 h1_82 hp80 => ?_)
                      refine JD_two (i := 5) (j := 12) (by kernel_rfl) ?_ ?_
                      · refine JO_q rfl (wants_none rfl) rfl (ex_load_bx 5 ti_26 rfl rfl rfl) ?_
                        refine JD_one (i := 12) (by kernel_rfl) ?_
                        refine JO_st rfl (wants_none rfl) rfl (st_buildSlice (vs := [.agg #[.int .i64 r31.write, .int .i64 r31.move, .int .i64 s65.2]]) ([(⟨r31.write, r31.move, s65.2⟩ : GRule)] : List GRule) Try.underlying26 ti_91 zi_91 rfl rfl rfl (fun w hh => ⟨(GRule.rdmk (Rd.mk_int _ _ _) (Rd.mk_int _ _ _) (Rd.mk_int _ _ _)), trivial⟩)) (fun _ hk => nomatch hk) (fun b83 => ?_)
                        refine JD_bnd fun z84 hz85 => ?_
                        refine JD_one (i := 13) (by kernel_rfl) ?_
                        refine JO_st rfl (wants_none rfl) rfl (st_append 5 Try.underlying26 ti_91 zi_91 rfl bi_91 rfl rfl rfl rfl (fun w hh => hh.src_ow 0 rfl) hz85) (sub_ow 0 rfl) (fun v86 => ?_)
                        refine JD_take (i := 14) hp80 rfl (by kernel_rfl) (by kernel_rfl) (by kernel_rfl) (wants_none rfl) rfl (ex_nilCheck rfl) ?_
                        refine JD_take (i := 15) hp80 rfl (by kernel_rfl) (by kernel_rfl) (by kernel_rfl) (wants_none rfl) rfl (ex_fieldAddr fi_49_4 rfl rfl) ?_
                        refine JD_take (i := 16) hp80 rfl (by kernel_rfl) (by kernel_rfl) (by kernel_rfl) (wants_none rfl) rfl (ex_fieldAddr fi_28_2 rfl rfl) ?_
                        refine JD_one (i := 17) (by kernel_rfl) ?_
                        refine JO_sk rfl (wants_none rfl) (sk_store_bx' 6 ti_26 rfl rfl (fun w hh => (hh.cv_ow 5 rfl)) rfl rfl rfl rfl) (sub_bx 1 rfl) ?_
                        refine JD_done (by kernel_rfl) ?_
                        refine N_block ?_
                        refine N_then ?_
                        refine J_region ?_
                        refine JL_q (wants_none rfl) rfl (ex_move rfl) ?_
                        refine JL_q (wants_none rfl) rfl (ex_add rfl rfl) ?_
                        refine JL_q (wants_none rfl) rfl (ex_assign rfl) ?_
                        refine JL_nil ?_
                        exact N_next' (g66_0, g66_1, v86) ⟨rfl, rfl, rfl, rfl, trivial⟩ [1, 2, 3, 4, 5, 6, 9] rfl rfl
                      · refine JO_st rfl (wants_none rfl) rfl (st_buildSlice (vs := [.agg #[.int .i64 r31.write, .int .i64 r31.move, .int .i64 s65.2]]) ([(⟨r31.write, r31.move, s65.2⟩ : GRule)] : List GRule) Try.underlying26 ti_91 zi_91 rfl rfl rfl (fun w hh => ⟨(GRule.rdmk (Rd.mk_int _ _ _) (Rd.mk_int _ _ _) (Rd.mk_int _ _ _)), trivial⟩)) (fun _ hk => nomatch hk) (fun b87 => ?_)
                        refine JD_one (i := 5) (by kernel_rfl) ?_
                        refine JO_q rfl (wants_none rfl) rfl (ex_load_bx 6 ti_26 rfl rfl rfl) ?_
                        refine JD_bnd fun z88 hz89 => ?_
                        refine JD_one (i := 13) (by kernel_rfl) ?_
                        refine JO_st rfl (wants_none rfl) rfl (st_append 5 Try.underlying26 ti_91 zi_91 rfl bi_91 rfl rfl rfl rfl (fun w hh => hh.src_ow 0 rfl) hz89) (sub_ow 0 rfl) (fun v90 => ?_)
                        refine JD_take (i := 14) hp80 rfl (by kernel_rfl) (by kernel_rfl) (by kernel_rfl) (wants_none rfl) rfl (ex_nilCheck rfl) ?_
                        refine JD_take (i := 15) hp80 rfl (by kernel_rfl) (by kernel_rfl) (by kernel_rfl) (wants_none rfl) rfl (ex_fieldAddr fi_49_4 rfl rfl) ?_
                        refine JD_take (i := 16) hp80 rfl (by kernel_rfl) (by kernel_rfl) (by kernel_rfl) (wants_none rfl) rfl (ex_fieldAddr fi_28_2 rfl rfl) ?_
                        refine JD_one (i := 17) (by kernel_rfl) ?_
                        refine JO_sk rfl (wants_none rfl) (sk_store_bx' 6 ti_26 rfl rfl (fun w hh => (hh.cv_ow 5 rfl)) rfl rfl rfl rfl) (sub_bx 1 rfl) ?_
                        refine JD_done (by kernel_rfl) ?_
                        refine N_block ?_
                        refine N_then ?_
                        refine J_region ?_
                        refine JL_q (wants_none rfl) rfl (ex_move rfl) ?_
                        refine JL_q (wants_none rfl) rfl (ex_add rfl rfl) ?_
                        refine JL_q (wants_none rfl) rfl (ex_assign rfl) ?_
                        refine JL_nil ?_
                        exact N_next' (g66_0, g66_1, v90) ⟨rfl, rfl, rfl, rfl, trivial⟩ [1, 2, 3, 4, 5, 6, 9] rfl rfl
                  · refine J_skip ?_
                    refine N_block ?_
                    refine N_then ?_
                    refine J_region ?_
                    refine JL_q (wants_none rfl) rfl (ex_move rfl) ?_
                    refine JL_q (wants_none rfl) rfl (ex_add rfl rfl) ?_
                    refine JL_q (wants_none rfl) rfl (ex_assign rfl) ?_
                    refine JL_nil ?_
                    exact N_next' () ⟨rfl, rfl, rfl, trivial⟩ [1, 2, 3, 4, 5, 6, 7, 8, 9, 10] rfl rfl
                · refine J_exit ?_
                  refine N_then_exit ?_
                  exact N_break' () ⟨rfl, rfl, rfl, trivial⟩ [0, 1, 2, 3, 4, 5, 6, 7, 8, 9] rfl rfl
              · refine N_then ?_
                refine J_seq ?_
                refine J_region ?_
                refine JL_q (wants_none rfl) rfl (ex_assign rfl) ?_
                refine JL_nil ?_
                refine N_then ?_
                refine J_ret ?_
                refine N_inl1 hK55 rfl (rv_tmp rfl) ?_
                refine JL_q (wants_none rfl) rfl (ex_assign rfl) ?_
                refine JL_nil ?_
                refine N_then ?_
                refine J_seq ?_
                refine J_cut' (S' := (List (List Int)) × Int) (G' := Value × List Nat) (fun s91 g92 => [(0, .pointer (some ⟨b7, 0, none⟩)), (1, .int .i64 (w64 (2 * p0.Symbols))), (7, .int .i64 s18.2.2), (8, .int .i64 s21.2.2), (9, .pointer (some ⟨b34, 0, none⟩)), (10, .int .i64 s91.2)]) (fun s91 g92 => [.fz w9 C15, .rd v0_0 p0.Rules, .bx b1 33 [.int .i64 p0.Tapes, .int .i64 p0.Symbols, .int .i64 p0.States, v0_0], .od 64 g92.1 s91.1 g92.2, .ow 91 g22_2 s21.2.1, .bx b7 49 [.pointer none, .pointer (some ⟨b1, 0, none⟩), .int .i64 2, g92.1, .int .i64 (w64 (2 * p0.Symbols)), .int .i64 0, g22_2], .rd x33_0 r31.next, .bx b34 96 [.bool r31.ok, .int .i64 r31.write, .int .i64 r31.move, x33_0], .bx b2 28 [.int .i64 0, .int .i64 0, .slice none 0 0]]) ?_ (fun s91 g92 => ?_)
                · refine J_seq ?_
                  refine J_region ?_
                  refine JL_q (wants_none rfl) rfl (ex_move rfl) ?_
                  refine JL_q (wants_none rfl) rfl (ex_lss rfl rfl) ?_
                  refine JL_nil ?_
                  refine N_then ?_
                  refine J_if_true rfl (by decide) ?_
                  refine J_seq ?_
                  refine J_seq ?_
                  refine J_region ?_
                  refine JL_q (wants_none rfl) rfl (ex_move rfl) ?_
                  refine JL_q (wants_none rfl) rfl (ex_nilCheck rfl) ?_
                  refine JL_q (wants_none rfl) rfl (ex_fieldAddr fi_49_3 rfl rfl) ?_
                  refine JL_q (wants_none rfl) rfl (ex_load_bx 5 ti_47 rfl rfl rfl) ?_
                  refine JL_q (wants_none rfl) rfl (ex_od 3 rfl (ex_len_ow 3 Try.underlying47 rfl rfl)) ?_
                  refine JL_q (wants_none rfl) rfl (ex_eql rfl rfl) ?_
                  refine JL_nil ?_
                  refine N_then ?_
                  refine J_if rfl (fun h93 => ?_) (fun h93 => ?_)
                  · refine J_seq ?_
                    refine J_region ?_
                    refine JL_q (wants_none rfl) rfl (ex_assign rfl) ?_
                    refine JL_nil ?_
                    refine N_then ?_
                    refine J_ret ?_
                    refine N_then_ret ?_
                    refine N_mid_ret ?_
                    refine N_then_ret ?_
                    refine N_block_ret ?_
                    refine N_then_ret ?_
                    refine N_round_ret ?_
                    refine N_block_ret ?_
                    refine N_then_ret ?_
                    refine N_round_reti ?_
                    refine N_then_ret ?_
                    refine N_inlD1 hK14 rfl (rv_tmp rfl) 0 [8, 2] rfl rfl ?_
                    refine JD_take (i := 9) hp8 rfl (by kernel_rfl) (by kernel_rfl) (by kernel_rfl) (wants_none rfl) rfl (ex_assign rfl) ?_
                    refine JD_done (by kernel_rfl) ?_
                    refine N_then ?_
                    refine J_seq ?_
                    refine J_region ?_
                    refine JL_q (wants_none rfl) rfl (ex_move rfl) ?_
                    refine JL_q (wants_none rfl) rfl (ex_move rfl) ?_
                    refine JL_q (wants_none rfl) rfl (ex_assign rfl) ?_
                    refine JL_q (wants_none rfl) rfl (ex_assign rfl) ?_
                    refine JL_nil ?_
                    refine N_then ?_
                    refine J_ret ?_
                    refine N_inl2 hK6 rfl (rv_tmp rfl) (rv_tmp rfl) ?_
                    refine JL_q (wants_none rfl) rfl (ex_move rfl) ?_
                    refine JL_q (wants_none rfl) rfl (ex_extract rfl rfl) ?_
                    refine JL_q (wants_none rfl) rfl (ex_extract rfl rfl) ?_
                    refine JL_q (wants_none rfl) rfl (ex_assign rfl) ?_
                    refine JL_q (wants_none rfl) rfl (ex_assign rfl) ?_
                    refine JL_nil ?_
                    refine N_then ?_
                    refine J_seq ?_
                    refine J_seq ?_
                    refine J_region ?_
                    refine JL_q (wants_none rfl) rfl (ex_move rfl) ?_
                    refine JL_q (wants_none rfl) rfl (ex_not rfl) ?_
                    refine JL_nil ?_
                    refine N_then ?_
                    refine J_if_true rfl rfl ?_
                    refine J_seq ?_
                    refine J_region ?_
                    refine JL_q (wants_none rfl) rfl (ex_build si_28 rfl .nil (fun w hh => trivial)) ?_
                    refine JL_sk (wants_none rfl) (sk_store_bx' 8 ti_28 rfl rfl (fun w hh => (cv_aggs ⟨cv_int, cv_int, cv_slice, trivial⟩)) rfl rfl rfl rfl) ?_
                    refine JL_q (wants_none rfl) rfl (ex_assign rfl) ?_
                    refine JL_nil ?_
                    refine N_then ?_
                    refine J_ret ?_
                    refine N_then_ret ?_
                    refine N_ctx (fun w hh => SH.ow_nil (α := GRule) 91 hh) ?_
                    exact N_ret2 rfl (rv_cell 9 rfl rfl ti_28 rfl) (rv_tmp rfl) (fun w hh => ⟨(.slice none 0 0 : Value), rfl, hh.sel [0] rfl⟩)
                  · refine J_skip ?_
                    refine N_then ?_
                    refine J_seq ?_
                    refine J_region ?_
                    refine JL_q (wants_none rfl) rfl (ex_move rfl) ?_
                    refine JL_q (wants_none rfl) rfl (ex_nilCheck rfl) ?_
                    refine JL_q (wants_none rfl) rfl (ex_fieldAddr fi_49_3 rfl rfl) ?_
                    refine JL_q (wants_none rfl) rfl (ex_load_bx 5 ti_47 rfl rfl rfl) ?_
                    refine JL_q (wants_none rfl) rfl (ex_od 3 rfl (ex_len_ow 3 Try.underlying47 rfl rfl)) ?_
                    refine JL_q (wants_none rfl) rfl (ex_assign rfl) ?_
                    refine JL_nil ?_
                    refine N_then ?_
                    refine J_draw [3, 5] (by kernel_rfl) ?_
                    refine JP_take (i := 0) [0, 1, 2, 4, 6, 7, 8, 9] [3, 5] rfl (by kernel_rfl) (by kernel_rfl) (by kernel_rfl) rfl rfl (wants_none rfl) rfl (ex_move rfl) ?_
                    refine JP_take (i := 1) [0, 1, 2, 4, 6, 7, 8, 9] [3, 5] rfl (by kernel_rfl) (by kernel_rfl) (by kernel_rfl) rfl rfl (wants_none rfl) rfl (ex_move rfl) ?_
                    refine JP_take (i := 2) [0, 1, 2, 4, 6, 7, 8, 9] [3, 5] rfl (by kernel_rfl) (by kernel_rfl) (by kernel_rfl) rfl rfl (wants_none rfl) rfl (ex_nilCheck rfl) ?_
                    refine JP_take (i := 3) [0, 1, 2, 4, 6, 7, 8, 9] [3, 5] rfl (by kernel_rfl) (by kernel_rfl) (by kernel_rfl) rfl rfl (wants_none rfl) rfl (ex_fieldAddr fi_49_3 rfl rfl) ?_
                    refine JP_take (i := 5) [0, 1, 2, 4, 6, 7, 8, 9] [3, 5] rfl (by kernel_rfl) (by kernel_rfl) (by kernel_rfl) rfl rfl (wants_none rfl) rfl (ex_fieldAddr fi_96_3 rfl rfl) ?_
                    refine JP_take (i := 6) [0, 1, 2, 4, 6, 7, 8, 9] [3, 5] rfl (by kernel_rfl) (by kernel_rfl) (by kernel_rfl) rfl rfl (wants_none rfl) rfl (ex_load_bx 7 ti_64 rfl rfl rfl) ?_
                    refine JP_go [0, 1, 2, 4, 6, 7, 8, 9] [3, 5] rfl rfl rfl (fun w95 h1_96 hp94 => ?_)
                    refine JD_two (i := 4) (j := 7) (by kernel_rfl) ?_ ?_
                    · refine JO_q rfl (wants_none rfl) rfl (ex_load_bx 5 ti_47 rfl rfl rfl) ?_
                      refine JD_one (i := 7) (by kernel_rfl) ?_
                      refine JO_st rfl (wants_none rfl) rfl (st_buildSlice_od (vs := [x33_0]) (B := (x33_1 ++ [])) ([r31.next] : List (List Int)) [7] Try.underlying47 ti_64 zi_64 rfl rfl rfl rfl rfl (fun w hh => (dwv_cons (hh.dw 7 rfl) dwv_nil))) (fun _ hk => nomatch hk) (fun b97 => ?_)
                      refine JD_bnd fun z98 hz99 => ?_
                      refine JD_one (i := 8) (by kernel_rfl) ?_
                      refine JO_st rfl (wants_none rfl) rfl (st_append_od 4 0 Try.underlying47 ti_64 zi_64 rfl bi_64 rfl rfl rfl rfl rfl rfl hz99) (sub_od 0 rfl) (fun v100 => ?_)
                      refine JD_take (i := 9) hp94 rfl (by kernel_rfl) (by kernel_rfl) (by kernel_rfl) (wants_none rfl) rfl (ex_nilCheck rfl) ?_
                      refine JD_take (i := 10) hp94 rfl (by kernel_rfl) (by kernel_rfl) (by kernel_rfl) (wants_none rfl) rfl (ex_fieldAddr fi_49_3 rfl rfl) ?_
                      refine JD_one (i := 11) (by kernel_rfl) ?_
                      refine JO_sk rfl (wants_none rfl) (sk_store_bx' 6 ti_47 rfl rfl (fun w hh => (hh.cv_od 4 rfl)) rfl rfl rfl rfl) (sub_bx 1 rfl) ?_
                      refine JD_done (by kernel_rfl) ?_
                      exact N_meet' (v100, (g22_1 ++ (x33_1 ++ []))) ⟨rfl, rfl, rfl, rfl, rfl, rfl, trivial⟩ [1, 2, 3, 4, 5, 6, 7, 10, 9] rfl rfl
                    · refine JO_st rfl (wants_none rfl) rfl (st_buildSlice_od (vs := [x33_0]) (B := (x33_1 ++ [])) ([r31.next] : List (List Int)) [7] Try.underlying47 ti_64 zi_64 rfl rfl rfl rfl rfl (fun w hh => (dwv_cons (hh.dw 7 rfl) dwv_nil))) (fun _ hk => nomatch hk) (fun b101 => ?_)
                      refine JD_one (i := 4) (by kernel_rfl) ?_
                      refine JO_q rfl (wants_none rfl) rfl (ex_load_bx 6 ti_47 rfl rfl rfl) ?_
                      refine JD_bnd fun z102 hz103 => ?_
                      refine JD_one (i := 8) (by kernel_rfl) ?_
                      refine JO_st rfl (wants_none rfl) rfl (st_append_od 4 0 Try.underlying47 ti_64 zi_64 rfl bi_64 rfl rfl rfl rfl rfl rfl hz103) (sub_od 0 rfl) (fun v104 => ?_)
                      refine JD_take (i := 9) hp94 rfl (by kernel_rfl) (by kernel_rfl) (by kernel_rfl) (wants_none rfl) rfl (ex_nilCheck rfl) ?_
                      refine JD_take (i := 10) hp94 rfl (by kernel_rfl) (by kernel_rfl) (by kernel_rfl) (wants_none rfl) rfl (ex_fieldAddr fi_49_3 rfl rfl) ?_
                      refine JD_one (i := 11) (by kernel_rfl) ?_
                      refine JO_sk rfl (wants_none rfl) (sk_store_bx' 6 ti_47 rfl rfl (fun w hh => (hh.cv_od 4 rfl)) rfl rfl rfl rfl) (sub_bx 1 rfl) ?_
                      refine JD_done (by kernel_rfl) ?_
                      exact N_meet' (v104, (g22_1 ++ (x33_1 ++ []))) ⟨rfl, rfl, rfl, rfl, rfl, rfl, trivial⟩ [1, 2, 3, 4, 5, 6, 7, 10, 9] rfl rfl
                · obtain ⟨g92_0, g92_1⟩ := g92
                  refine N_then ?_
                  refine J_draw [4, 5] (by kernel_rfl) ?_
                  refine JP_take (i := 0) [0, 1, 2, 3, 6, 7, 8] [4, 5] rfl (by kernel_rfl) (by kernel_rfl) (by kernel_rfl) rfl rfl (wants_none rfl) rfl (ex_move rfl) ?_
                  refine JP_take (i := 1) [0, 1, 2, 3, 6, 7, 8] [4, 5] rfl (by kernel_rfl) (by kernel_rfl) (by kernel_rfl) rfl rfl (wants_none rfl) rfl (ex_move rfl) ?_
                  refine JP_take (i := 2) [0, 1, 2, 3, 6, 7, 8] [4, 5] rfl (by kernel_rfl) (by kernel_rfl) (by kernel_rfl) rfl rfl (wants_none rfl) rfl (ex_nilCheck rfl) ?_
                  refine JP_take (i := 3) [0, 1, 2, 3, 6, 7, 8] [4, 5] rfl (by kernel_rfl) (by kernel_rfl) (by kernel_rfl) rfl rfl (wants_none rfl) rfl (ex_fieldAddr fi_49_4 rfl rfl) ?_
                  refine JP_take (i := 4) [0, 1, 2, 3, 6, 7, 8] [4, 5] rfl (by kernel_rfl) (by kernel_rfl) (by kernel_rfl) rfl rfl (wants_none rfl) rfl (ex_fieldAddr fi_28_2 rfl rfl) ?_
                  refine JP_take (i := 6) [0, 1, 2, 3, 6, 7, 8] [4, 5] rfl (by kernel_rfl) (by kernel_rfl) (by kernel_rfl) rfl rfl (wants_none rfl) rfl (ex_fieldAddr fi_96_1 rfl rfl) ?_
                  refine JP_take (i := 7) [0, 1, 2, 3, 6, 7, 8] [4, 5] rfl (by kernel_rfl) (by kernel_rfl) (by kernel_rfl) rfl rfl (wants_none rfl) rfl (ex_load_bx 5 ti_2 rfl rfl rfl) ?_
                  refine JP_take (i := 8) [0, 1, 2, 3, 6, 7, 8] [4, 5] rfl (by kernel_rfl) (by kernel_rfl) (by kernel_rfl) rfl rfl (wants_none rfl) rfl (ex_fieldAddr fi_96_2 rfl rfl) ?_
                  refine JP_take (i := 9) [0, 1, 2, 3, 6, 7, 8] [4, 5] rfl (by kernel_rfl) (by kernel_rfl) (by kernel_rfl) rfl rfl (wants_none rfl) rfl (ex_load_bx 5 ti_2 rfl rfl rfl) ?_
                  refine JP_take (i := 10) [0, 1, 2, 3, 6, 7, 8] [4, 5] rfl (by kernel_rfl) (by kernel_rfl) (by kernel_rfl) rfl rfl (wants_none rfl) rfl (ex_move rfl) ?_
                  refine JP_take (i := 11) [0, 1, 2, 3, 6, 7, 8] [4, 5] rfl (by kernel_rfl) (by kernel_rfl) (by kernel_rfl) rfl rfl (wants_none rfl) rfl (ex_build si_91 rfl (.cons fi_91_0 rfl rfl (.cons fi_91_1 rfl rfl (.cons fi_91_2 rfl rfl .nil))) (fun w hh => ⟨cv_int, cv_int, cv_int, trivial⟩)) ?_
                  refine JP_go [0, 1, 2, 3, 6, 7, 8] [4, 5] rfl rfl rfl (fun w106 h1_107 hp105 => ?_)
                  refine JD_two (i := 5) (j := 12) (by kernel_rfl) ?_ ?_
                  · refine JO_q rfl (wants_none rfl) rfl (ex_load_bx 5 ti_26 rfl rfl rfl) ?_
                    refine JD_one (i := 12) (by kernel_rfl) ?_
                    refine JO_st rfl (wants_none rfl) rfl (st_buildSlice (vs := [.agg #[.int .i64 r31.write, .int .i64 r31.move, .int .i64 s91.2]]) ([(⟨r31.write, r31.move, s91.2⟩ : GRule)] : List GRule) Try.underlying26 ti_91 zi_91 rfl rfl rfl (fun w hh => ⟨(GRule.rdmk (Rd.mk_int _ _ _) (Rd.mk_int _ _ _) (Rd.mk_int _ _ _)), trivial⟩)) (fun _ hk => nomatch hk) (fun b108 => ?_)
                    refine JD_bnd fun z109 hz110 => ?_
                    refine JD_one (i := 13) (by kernel_rfl) ?_
                    refine JO_st rfl (wants_none rfl) rfl (st_append 5 Try.underlying26 ti_91 zi_91 rfl bi_91 rfl rfl rfl rfl (fun w hh => hh.src_ow 0 rfl) hz110) (sub_ow 0 rfl) (fun v111 => ?_)
                    refine JD_take (i := 14) hp105 rfl (by kernel_rfl) (by kernel_rfl) (by kernel_rfl) (wants_none rfl) rfl (ex_nilCheck rfl) ?_
                    refine JD_take (i := 15) hp105 rfl (by kernel_rfl) (by kernel_rfl) (by kernel_rfl) (wants_none rfl) rfl (ex_fieldAddr fi_49_4 rfl rfl) ?_
                    refine JD_take (i := 16) hp105 rfl (by kernel_rfl) (by kernel_rfl) (by kernel_rfl) (wants_none rfl) rfl (ex_fieldAddr fi_28_2 rfl rfl) ?_
                    refine JD_one (i := 17) (by kernel_rfl) ?_
                    refine JO_sk rfl (wants_none rfl) (sk_store_bx' 6 ti_26 rfl rfl (fun w hh => (hh.cv_ow 5 rfl)) rfl rfl rfl rfl) (sub_bx 1 rfl) ?_
                    refine JD_done (by kernel_rfl) ?_
                    refine N_block ?_
                    refine N_then ?_
                    refine J_region ?_
                    refine JL_q (wants_none rfl) rfl (ex_move rfl) ?_
                    refine JL_q (wants_none rfl) rfl (ex_add rfl rfl) ?_
                    refine JL_q (wants_none rfl) rfl (ex_assign rfl) ?_
                    refine JL_nil ?_
                    exact N_next' (g92_0, g92_1, v111) ⟨rfl, rfl, rfl, rfl, trivial⟩ [1, 2, 3, 4, 5, 6, 9] rfl rfl
                  · refine JO_st rfl (wants_none rfl) rfl (st_buildSlice (vs := [.agg #[.int .i64 r31.write, .int .i64 r31.move, .int .i64 s91.2]]) ([(⟨r31.write, r31.move, s91.2⟩ : GRule)] : List GRule) Try.underlying26 ti_91 zi_91 rfl rfl rfl (fun w hh => ⟨(GRule.rdmk (Rd.mk_int _ _ _) (Rd.mk_int _ _ _) (Rd.mk_int _ _ _)), trivial⟩)) (fun _ hk => nomatch hk) (fun b112 => ?_)
                    refine JD_one (i := 5) (by kernel_rfl) ?_
                    refine JO_q rfl (wants_none rfl) rfl (ex_load_bx 6 ti_26 rfl rfl rfl) ?_
                    refine JD_bnd fun z113 hz114 => ?_
                    refine JD_one (i := 13) (by kernel_rfl) ?_
                    refine JO_st rfl (wants_none rfl) rfl (st_append 5 Try.underlying26 ti_91 zi_91 rfl bi_91 rfl rfl rfl rfl (fun w hh => hh.src_ow 0 rfl) hz114) (sub_ow 0 rfl) (fun v115 => ?_)
                    refine JD_take (i := 14) hp105 rfl (by kernel_rfl) (by kernel_rfl) (by kernel_rfl) (wants_none rfl) rfl (ex_nilCheck rfl) ?_
                    refine JD_take (i := 15) hp105 rfl (by kernel_rfl) (by kernel_rfl) (by kernel_rfl) (wants_none rfl) rfl (ex_fieldAddr fi_49_4 rfl rfl) ?_
                    refine JD_take (i := 16) hp105 rfl (by kernel_rfl) (by kernel_rfl) (by kernel_rfl) (wants_none rfl) rfl (ex_fieldAddr fi_28_2 rfl rfl) ?_
                    refine JD_one (i := 17) (by kernel_rfl) ?_
                    refine JO_sk rfl (wants_none rfl) (sk_store_bx' 6 ti_26 rfl rfl (fun w hh => (hh.cv_ow 5 rfl)) rfl rfl rfl rfl) (sub_bx 1 rfl) ?_
                    refine JD_done (by kernel_rfl) ?_
                    refine N_block ?_
                    refine N_then ?_
                    refine J_region ?_
                    refine JL_q (wants_none rfl) rfl (ex_move rfl) ?_
                    refine JL_q (wants_none rfl) rfl (ex_add rfl rfl) ?_
                    refine JL_q (wants_none rfl) rfl (ex_assign rfl) ?_
                    refine JL_nil ?_
                    exact N_next' (g92_0, g92_1, v115) ⟨rfl, rfl, rfl, rfl, trivial⟩ [1, 2, 3, 4, 5, 6, 9] rfl rfl
          · refine J_exit ?_
            refine N_then_exit ?_
            exact N_break' (g22_0, g22_1, g22_2) ⟨rfl, rfl, rfl, rfl, trivial⟩ [0, 1, 2, 3, 4, 5, 6] rfl rfl
        · obtain ⟨g22_0, g22_1, g22_2⟩ := g22
          refine N_block ?_
          refine N_then ?_
          refine J_region ?_
          refine JL_q (wants_none rfl) rfl (ex_move rfl) ?_
          refine JL_q (wants_none rfl) rfl (ex_add rfl rfl) ?_
          refine JL_q (wants_none rfl) rfl (ex_assign rfl) ?_
          refine JL_nil ?_
          exact N_next' (g22_0, g22_1, g22_2) ⟨rfl, rfl, rfl, trivial⟩ [0, 1, 2, 3, 4, 5, 6] rfl rfl
      · refine J_exit ?_
        refine N_then_exit ?_
        exact N_break' (g19_0, g19_1, g19_2) ⟨rfl, rfl, rfl, trivial⟩ [0, 1, 2, 3, 4, 5, 6] rfl rfl
    · obtain ⟨g19_0, g19_1, g19_2⟩ := g19
      refine N_then ?_
      refine J_seq ?_
      refine J_region ?_
      refine JL_q (wants_none rfl) rfl (ex_move rfl) ?_
      refine JL_q (wants_none rfl) rfl (ex_move rfl) ?_
      refine JL_q (wants_none rfl) rfl (ex_nilCheck rfl) ?_
      refine JL_q (wants_none rfl) rfl (ex_fieldAddr fi_49_3 rfl rfl) ?_
      refine JL_q (wants_none rfl) rfl (ex_load_bx 5 ti_47 rfl rfl rfl) ?_
      refine JL_q (wants_none rfl) rfl (ex_od 3 rfl (ex_len_ow 3 Try.underlying47 rfl rfl)) ?_
      refine JL_q (wants_none rfl) rfl (ex_nilCheck rfl) ?_
      refine JL_q (wants_none rfl) rfl (ex_fieldAddr fi_49_4 rfl rfl) ?_
      refine JL_q (wants_none rfl) rfl (ex_fieldAddr fi_28_1 rfl rfl) ?_
      refine JL_sk (wants_none rfl) (sk_store_bx' 5 ti_2 rfl rfl (fun w hh => cv_int) rfl rfl rfl rfl) ?_
      refine JL_nil ?_
      refine N_then ?_
      refine J_seq ?_
      refine J_region ?_
      refine JL_q (wants_none rfl) rfl (ex_assign rfl) ?_
      refine JL_nil ?_
      refine N_then ?_
      refine J_ret ?_
      refine N_inlD1 hK14 rfl (rv_tmp rfl) 0 [6, 2] rfl rfl ?_
      refine JD_take (i := 9) hp8 rfl (by kernel_rfl) (by kernel_rfl) (by kernel_rfl) (wants_none rfl) rfl (ex_assign rfl) ?_
      refine JD_done (by kernel_rfl) ?_
      refine N_then ?_
      refine J_seq ?_
      refine J_region ?_
      refine JL_q (wants_none rfl) rfl (ex_move rfl) ?_
      refine JL_q (wants_none rfl) rfl (ex_move rfl) ?_
      refine JL_q (wants_none rfl) rfl (ex_assign rfl) ?_
      refine JL_q (wants_none rfl) rfl (ex_assign rfl) ?_
      refine JL_nil ?_
      refine N_then ?_
      refine J_ret ?_
      refine N_inl2 hK6 rfl (rv_tmp rfl) (rv_tmp rfl) ?_
      refine JL_q (wants_none rfl) rfl (ex_move rfl) ?_
      refine JL_q (wants_none rfl) rfl (ex_extract rfl rfl) ?_
      refine JL_q (wants_none rfl) rfl (ex_extract rfl rfl) ?_
      refine JL_q (wants_none rfl) rfl (ex_assign rfl) ?_
      refine JL_q (wants_none rfl) rfl (ex_assign rfl) ?_
      refine JL_nil ?_
      refine N_then ?_
      refine J_seq ?_
      refine J_seq ?_
      refine J_region ?_
      refine JL_q (wants_none rfl) rfl (ex_move rfl) ?_
      refine JL_q (wants_none rfl) rfl (ex_not rfl) ?_
      refine JL_nil ?_
      refine N_then ?_
      refine J_if_false rfl rfl ?_
      refine J_skip ?_
      refine N_then ?_
      refine J_seq ?_
      refine J_region ?_
      refine JL_q (wants_none rfl) rfl (ex_move rfl) ?_
      refine JL_q (wants_none rfl) rfl (ex_nilCheck rfl) ?_
      refine JL_q (wants_none rfl) rfl (ex_fieldAddr fi_49_4 rfl rfl) ?_
      refine JL_q (wants_none rfl) rfl (ex_load_bx_agg 5 ti_28 rfl rfl rfl rfl) ?_
      refine JL_sk (wants_none rfl) (sk_store_bx' 6 ti_28 rfl rfl (fun w hh => (cv_aggs ⟨cv_int, cv_int, (hh.cv_ow 4 rfl), trivial⟩)) rfl rfl rfl rfl) ?_
      refine JL_q (wants_none rfl) rfl (ex_assign rfl) ?_
      refine JL_nil ?_
      refine N_then ?_
      refine J_ret ?_
      exact N_ret2 rfl (rv_cell 6 rfl rfl ti_28 rfl) (rv_tmp rfl) (fun w hh => ⟨g19_2, rfl, hh.sel [4] rfl⟩)

set_option maxHeartbeats 40000000 in
theorem c_impl_within (A : Nat → Prop) (w : World) (hA : ∀ k, A k → k < w.heap.size) (p0 : Int) (p1 : Int) (p2 : Int) (r : Bool) (hr : F_impl_within p0 p1 p2 = some r) :
    Con Try.prog 32 [.int .i64 p0, .int .i64 p1, .int .i64 p2] A w (fun x_ : Unit => .bool r) (fun x_ => []) := by
  refine Con_of (v := fun (r : Bool) (x_ : Unit) => .bool r) (fs := fun r x_ => []) Try.func32 rfl Try.ntmps32 rfl (SH.start hA) rfl ?_ hr
  unfold F_impl_within
  refine J_seq ?_
  refine J_region ?_
  refine JL_q (wants_none rfl) rfl (ex_assign rfl) ?_
  refine JL_nil ?_
  refine N_then ?_
  refine J_seq ?_
  refine J_region ?_
  refine JL_q (wants_none rfl) rfl (ex_move rfl) ?_
  refine JL_q (wants_none rfl) rfl (ex_move rfl) ?_
  refine JL_q (wants_none rfl) rfl (ex_leq rfl rfl) ?_
  refine JL_q (wants_none rfl) rfl (ex_move rfl) ?_
  refine JL_cond (fun h1 => ?_) (fun h1 => ?_)
  · refine JL_q (wants_some rfl rfl rfl h1) rfl (ex_move rfl) ?_
    refine JL_q (wants_some rfl rfl rfl h1) rfl (ex_move rfl) ?_
    refine JL_q (wants_some rfl rfl rfl h1) rfl (ex_leq rfl rfl) ?_
    refine JL_q (wants_none rfl) rfl (ex_pick_true rfl h1 rfl) ?_
    refine JL_q (wants_none rfl) rfl (ex_assign rfl) ?_
    refine JL_nil ?_
    refine N_then ?_
    refine J_ret ?_
    exact N_ret1 rfl (rv_tmp rfl) (fun w hh => ⟨(), rfl, hh.sel [] rfl⟩)
  · refine JL_passed rfl rfl rfl h1 ?_
    refine JL_passed rfl rfl rfl h1 ?_
    refine JL_passed rfl rfl rfl h1 ?_
    refine JL_q (wants_none rfl) rfl (ex_pick_false rfl h1 rfl) ?_
    refine JL_q (wants_none rfl) rfl (ex_assign rfl) ?_
    refine JL_nil ?_
    refine N_then ?_
    refine J_ret ?_
    exact N_ret1 rfl (rv_tmp rfl) (fun w hh => ⟨(), rfl, hh.sel [] rfl⟩)

set_option maxHeartbeats 40000000 in
theorem c_impl_size_int64 (A : Nat → Prop) (w : World) (hA : ∀ k, A k → k < w.heap.size) (v0_ : Value) (p0 : (List Int)) (hp0 : Rd A w v0_ p0) (r : Int) (hr : F_impl_size_int64 p0 = some r) :
    Con Try.prog 48 [v0_] A w (fun x_ : Unit => .int .i64 r) (fun x_ => []) := by
  refine Con_of (v := fun (r : Int) (x_ : Unit) => .int .i64 r) (fs := fun r x_ => []) Try.func48 rfl Try.ntmps48 rfl ((SH.start hA).start_rd rfl hp0) rfl ?_ hr
  unfold F_impl_size_int64
  refine J_seq ?_
  refine J_region ?_
  refine JL_q (wants_none rfl) rfl (ex_assign rfl) ?_
  refine JL_nil ?_
  refine N_then ?_
  refine J_seq ?_
  refine J_region ?_
  refine JL_q (wants_none rfl) rfl (ex_move rfl) ?_
  refine JL_q (wants_none rfl) rfl (ex_len_rd 0 Try.underlying64 rfl rfl) ?_
  refine JL_q (wants_none rfl) rfl (ex_assign rfl) ?_
  refine JL_nil ?_
  refine N_then ?_
  refine J_ret ?_
  exact N_ret1 rfl (rv_tmp rfl) (fun w hh => ⟨(), rfl, hh.sel [] rfl⟩)

set_option maxHeartbeats 40000000 in
theorem c_impl_allWithin (A : Nat → Prop) (w : World) (hA : ∀ k, A k → k < w.heap.size) (v0_ : Value) (p0 : (List Int)) (hp0 : Rd A w v0_ p0) (p1 : Int) (p2 : Int) (r : Bool) (hr : F_impl_allWithin p0 p1 p2 = some r) :
    Con Try.prog 49 [v0_, .int .i64 p1, .int .i64 p2] A w (fun x_ : Unit => .bool r) (fun x_ => []) := by
  refine Con_of (v := fun (r : Bool) (x_ : Unit) => .bool r) (fs := fun r x_ => []) Try.func49 rfl Try.ntmps49 rfl ((SH.start hA).start_rd rfl hp0) rfl ?_ hr
  unfold F_impl_allWithin
  refine J_seq ?_
  refine J_region ?_
  refine JL_q (wants_none rfl) rfl (ex_assign rfl) ?_
  refine JL_nil ?_
  refine N_then ?_
  refine J_seq ?_
  refine J_seq ?_
  refine J_region ?_
  refine JL_q (wants_none rfl) rfl (ex_move rfl) ?_
  refine JL_q (wants_none rfl) rfl (ex_len_rd 0 Try.underlying64 rfl rfl) ?_
  refine JL_q (wants_none rfl) rfl (ex_move rfl) ?_
  refine JL_nil ?_
  refine N_then ?_
  refine J_loop' (S := Int) (G := Unit) (F_impl_allWithin_L1 p0 p1 p2) (fun s1 _ => [(1, .int .i64 p1), (2, .int .i64 p2), (9, v0_), (10, .int .i64 (p0.length : Int)), (11, .int .i64 s1)]) (fun s1 _ => [.rd v0_ p0]) 0 () ⟨rfl, rfl, rfl, rfl, rfl, trivial⟩ [0] rfl rfl (fun s1 g2 => ?_) (fun s1 g2 => ?_)
  · unfold F_impl_allWithin_L1
    refine J_seq ?_
    refine J_region ?_
    refine JL_q (wants_none rfl) rfl (ex_lss rfl rfl) ?_
    refine JL_nil ?_
    refine N_then ?_
    refine J_seq ?_
    refine J_if rfl (fun h3 => ?_) (fun h3 => ?_)
    · refine J_skip ?_
      refine N_then ?_
      refine J_seq ?_
      refine J_block ?_
      refine J_seq ?_
      refine J_region ?_
      refine JL_bnd fun y4 hy5 => ?_
      refine JL_st (wants_none rfl) rfl (st_index 0 Try.underlying64 ti_2 rfl rfl rfl hy5) (fun q6 => ?_)
      refine JL_st (wants_none rfl) rfl (st_load_pt_o 0 (opens_int _) ti_2 rfl rfl) (fun _ => ?_)
      refine JL_q (wants_none rfl) rfl (ex_assign rfl) ?_
      refine JL_nil ?_
      refine N_then ?_
      refine J_seq ?_
      refine J_region ?_
      refine JL_q (wants_none rfl) rfl (ex_move rfl) ?_
      refine JL_q (wants_none rfl) rfl (ex_move rfl) ?_
      refine JL_q (wants_none rfl) rfl (ex_move rfl) ?_
      refine JL_bnd fun r8 hr9 => ?_
      refine JL_call (wants_none rfl) rfl Try.call32 rfl (Ca_of0 fun w hh => c_impl_within _ w (fun _ hk => hk.elim) _ _ _ _ hr9) (fun _ => ?_)
      refine JL_q (wants_none rfl) rfl (ex_not rfl) ?_
      refine JL_nil ?_
      refine N_then ?_
      refine J_if rfl (fun h10 => ?_) (fun h10 => ?_)
      · refine J_seq ?_
        refine J_region ?_
        refine JL_q (wants_none rfl) rfl (ex_assign rfl) ?_
        refine JL_nil ?_
        refine N_then ?_
        refine J_ret ?_
        refine N_block_ret ?_
        refine N_then_ret ?_
        refine N_round_ret ?_
        refine N_then_ret ?_
        exact N_ret1 rfl (rv_tmp rfl) (fun w hh => ⟨(), rfl, hh.sel [] rfl⟩)
      · refine J_skip ?_
        refine N_block ?_
        refine N_then ?_
        refine J_region ?_
        refine JL_q (wants_none rfl) rfl (ex_add rfl rfl) ?_
        refine JL_q (wants_none rfl) rfl (ex_move rfl) ?_
        refine JL_nil ?_
        exact N_next' () ⟨rfl, rfl, rfl, rfl, rfl, trivial⟩ [1] rfl rfl
    · refine J_exit ?_
      refine N_then_exit ?_
      exact N_break' () ⟨rfl, rfl, rfl, rfl, rfl, trivial⟩ [0] rfl rfl
  · refine N_then ?_
    refine J_seq ?_
    refine J_region ?_
    refine JL_q (wants_none rfl) rfl (ex_assign rfl) ?_
    refine JL_nil ?_
    refine N_then ?_
    refine J_ret ?_
    exact N_ret1 rfl (rv_tmp rfl) (fun w hh => ⟨(), rfl, hh.sel [] rfl⟩)

set_option maxHeartbeats 40000000 in
theorem c_impl_validMultiRule (A : Nat → Prop) (w : World) (hA : ∀ k, A k → k < w.heap.size) (v0_ : Value) (p0 : GMulti) (hp0 : Rd A w v0_ p0) (v1_ : Value) (p1 : GMultiRule) (hp1 : Rd A w v1_ p1) (r : Bool) (hr : F_impl_validMultiRule p0 p1 = some r) :
    Con Try.prog 33 [v0_, v1_] A w (fun x_ : Unit => .bool r) (fun x_ => []) := by
  obtain ⟨v0_0, rfl, hp0_0⟩ := GMulti.open hp0
  obtain ⟨v1_0, v1_1, v1_2, rfl, hp1_0, hp1_1, hp1_2⟩ := GMultiRule.open hp1
  refine Con_of (v := fun (r : Bool) (x_ : Unit) => .bool r) (fs := fun r x_ => []) Try.func33 rfl Try.ntmps33 rfl (((((SH.start hA).start_rd rfl hp0_0).start_rd rfl hp1_0).start_rd rfl hp1_1).start_rd rfl hp1_2) rfl ?_ hr
  unfold F_impl_validMultiRule
  refine J_seq ?_
  refine J_region ?_
  refine JL_st (wants_none rfl) rfl (st_box' rfl (fun w hh => (cv_aggs ⟨cv_int, cv_int, cv_int, (hh.cv 3 rfl), trivial⟩))) (fun b1 => ?_)
  refine JL_st (wants_none rfl) rfl (st_box' rfl (fun w hh => (cv_aggs ⟨cv_int, (hh.cv 3 rfl), (hh.cv 2 rfl), (hh.cv 1 rfl), cv_int, trivial⟩))) (fun b2 => ?_)
  refine JL_q (wants_none rfl) rfl (ex_assign rfl) ?_
  refine JL_nil ?_
  refine N_then ?_
  refine J_seq ?_
  refine J_cut' (S' := Unit) (G' := Unit) (fun _ _ => [(2, .pointer (some ⟨b1, 0, none⟩)), (3, .pointer (some ⟨b2, 0, none⟩))]) (fun _ _ => [.rd v0_0 p0.Rules, .bx b1 33 [.int .i64 p0.Tapes, .int .i64 p0.Symbols, .int .i64 p0.States, v0_0], .rd v1_0 p1.Read, .rd v1_1 p1.Write, .rd v1_2 p1.Move, .bx b2 69 [.int .i64 p1.State, v1_0, v1_1, v1_2, .int .i64 p1.Next]]) ?_ (fun s3 g4 => ?_)
  · refine J_seq ?_
    refine J_region ?_
    refine JL_q (wants_none rfl) rfl (ex_fieldAddr fi_69_0 rfl rfl) ?_
    refine JL_q (wants_none rfl) rfl (ex_load_bx 0 ti_2 rfl rfl rfl) ?_
    refine JL_q (wants_none rfl) rfl (ex_fieldAddr fi_33_2 rfl rfl) ?_
    refine JL_q (wants_none rfl) rfl (ex_load_bx 1 ti_2 rfl rfl rfl) ?_
    refine JL_q (wants_none rfl) rfl (ex_sub rfl rfl) ?_
    refine JL_bnd fun r5 hr6 => ?_
    refine JL_call (wants_none rfl) rfl Try.call32 rfl (Ca_of0 fun w hh => c_impl_within _ w (fun _ hk => hk.elim) _ _ _ _ hr6) (fun _ => ?_)
    refine JL_q (wants_none rfl) rfl (ex_not rfl) ?_
    refine JL_q (wants_none rfl) rfl (ex_move rfl) ?_
    refine JL_cond (fun h7 => ?_) (fun h7 => ?_)
    · refine JL_passed rfl rfl rfl h7 ?_
      refine JL_passed rfl rfl rfl h7 ?_
      refine JL_passed rfl rfl rfl h7 ?_
      refine JL_passed rfl rfl rfl h7 ?_
      refine JL_passed rfl rfl rfl h7 ?_
      refine JL_passed rfl rfl rfl h7 ?_
      refine JL_passed rfl rfl rfl h7 ?_
      refine JL_q (wants_none rfl) rfl (ex_pick_true rfl h7 rfl) ?_
      refine JL_nil ?_
      refine N_then ?_
      refine J_if_true rfl rfl ?_
      refine J_seq ?_
      refine J_region ?_
      refine JL_q (wants_none rfl) rfl (ex_assign rfl) ?_
      refine JL_nil ?_
      refine N_then ?_
      refine J_ret ?_
      refine N_mid_ret ?_
      refine N_then_ret ?_
      exact N_ret1 rfl (rv_tmp rfl) (fun w hh => ⟨(), rfl, hh.sel [] rfl⟩)
    · refine JL_q (wants_some rfl rfl rfl h7) rfl (ex_fieldAddr fi_69_4 rfl rfl) ?_
      refine JL_q (wants_some rfl rfl rfl h7) rfl (ex_load_bx 0 ti_2 rfl rfl rfl) ?_
      refine JL_q (wants_some rfl rfl rfl h7) rfl (ex_fieldAddr fi_33_2 rfl rfl) ?_
      refine JL_q (wants_some rfl rfl rfl h7) rfl (ex_load_bx 1 ti_2 rfl rfl rfl) ?_
      refine JL_q (wants_some rfl rfl rfl h7) rfl (ex_sub rfl rfl) ?_
      refine JL_bnd fun r8 hr9 => ?_
      refine JL_call (wants_some rfl rfl rfl h7) rfl Try.call32 rfl (Ca_of0 fun w hh => c_impl_within _ w (fun _ hk => hk.elim) _ _ _ _ hr9) (fun _ => ?_)
      refine JL_q (wants_some rfl rfl rfl h7) rfl (ex_not rfl) ?_
      refine JL_q (wants_none rfl) rfl (ex_pick_false rfl h7 rfl) ?_
      refine JL_nil ?_
      refine N_then ?_
      refine J_if rfl (fun h10 => ?_) (fun h10 => ?_)
      · refine J_seq ?_
        refine J_region ?_
        refine JL_q (wants_none rfl) rfl (ex_assign rfl) ?_
        refine JL_nil ?_
        refine N_then ?_
        refine J_ret ?_
        refine N_mid_ret ?_
        refine N_then_ret ?_
        exact N_ret1 rfl (rv_tmp rfl) (fun w hh => ⟨(), rfl, hh.sel [] rfl⟩)
      · refine J_skip ?_
        exact N_meet' () ⟨rfl, rfl, trivial⟩ [5, 1, 4, 3, 2, 0] rfl rfl
  · refine N_then ?_
    refine J_seq ?_
    refine J_cut' (S' := Unit) (G' := Unit) (fun _ _ => [(2, .pointer (some ⟨b1, 0, none⟩)), (3, .pointer (some ⟨b2, 0, none⟩))]) (fun _ _ => [.rd v0_0 p0.Rules, .bx b1 33 [.int .i64 p0.Tapes, .int .i64 p0.Symbols, .int .i64 p0.States, v0_0], .rd v1_0 p1.Read, .rd v1_1 p1.Write, .rd v1_2 p1.Move, .bx b2 69 [.int .i64 p1.State, v1_0, v1_1, v1_2, .int .i64 p1.Next]]) ?_ (fun s11 g12 => ?_)
    · refine J_seq ?_
      refine J_draw [] (by kernel_rfl) ?_
      refine JP_take (i := 0) [0, 1, 2, 3, 4, 5] [] rfl (by kernel_rfl) (by kernel_rfl) (by kernel_rfl) rfl rfl (wants_none rfl) rfl (ex_fieldAddr fi_69_1 rfl rfl) ?_
      refine JP_take (i := 1) [0, 1, 2, 3, 4, 5] [] rfl (by kernel_rfl) (by kernel_rfl) (by kernel_rfl) rfl rfl (wants_none rfl) rfl (ex_load_bx 5 ti_64 rfl rfl rfl) ?_
      refine JP_take (i := 3) [0, 1, 2, 3, 4, 5] [] rfl (by kernel_rfl) (by kernel_rfl) (by kernel_rfl) rfl rfl (wants_none rfl) rfl (ex_fieldAddr fi_33_0 rfl rfl) ?_
      refine JP_take (i := 4) [0, 1, 2, 3, 4, 5] [] rfl (by kernel_rfl) (by kernel_rfl) (by kernel_rfl) rfl rfl (wants_none rfl) rfl (ex_load_bx 1 ti_2 rfl rfl rfl) ?_
      refine JP_go [0, 1, 2, 3, 4, 5] [] rfl rfl rfl (fun w14 h1_15 hp13 => ?_)
      refine JD_bnd fun r16 hr17 => ?_
      refine JD_one (i := 2) (by kernel_rfl) ?_
      refine JO_call rfl (wants_none rfl) rfl Try.call48 rfl (Ca_of0 fun w hh => c_impl_size_int64 _ w (fun _ hk => hk.elim) _ _ (hh.rd0 2 rfl) _ hr17) (fun _ => ?_)
      refine JD_take (i := 5) hp13 rfl (by kernel_rfl) (by kernel_rfl) (by kernel_rfl) (wants_none rfl) rfl (ex_neq rfl rfl) ?_
      refine JD_take (i := 6) hp13 rfl (by kernel_rfl) (by kernel_rfl) (by kernel_rfl) (wants_none rfl) rfl (ex_move rfl) ?_
      refine JD_cond (fun h18 => ?_) (fun h18 => ?_)
      · refine JD_pass (i := 7) rfl (by kernel_rfl) (by kernel_rfl) (by kernel_rfl) rfl rfl h18 rfl ?_
        refine JD_pass (i := 8) rfl (by kernel_rfl) (by kernel_rfl) (by kernel_rfl) rfl rfl h18 rfl ?_
        refine JD_pass (i := 9) rfl (by kernel_rfl) (by kernel_rfl) (by kernel_rfl) rfl rfl h18 rfl ?_
        refine JD_pass (i := 10) rfl (by kernel_rfl) (by kernel_rfl) (by kernel_rfl) rfl rfl h18 rfl ?_
        refine JD_pass (i := 11) rfl (by kernel_rfl) (by kernel_rfl) (by kernel_rfl) rfl rfl h18 rfl ?_
        refine JD_pass (i := 12) rfl (by kernel_rfl) (by kernel_rfl) (by kernel_rfl) rfl rfl h18 rfl ?_
        refine JD_take (i := 13) hp13 rfl (by kernel_rfl) (by kernel_rfl) (by kernel_rfl) (wants_none rfl) rfl (ex_pick_true rfl h18 rfl) ?_
        refine JD_take (i := 14) hp13 rfl (by kernel_rfl) (by kernel_rfl) (by kernel_rfl) (wants_none rfl) rfl (ex_move rfl) ?_
        refine JD_pass (i := 15) rfl (by kernel_rfl) (by kernel_rfl) (by kernel_rfl) rfl rfl rfl rfl ?_
        refine JD_pass (i := 16) rfl (by kernel_rfl) (by kernel_rfl) (by kernel_rfl) rfl rfl rfl rfl ?_
        refine JD_pass (i := 17) rfl (by kernel_rfl) (by kernel_rfl) (by kernel_rfl) rfl rfl rfl rfl ?_
        refine JD_pass (i := 18) rfl (by kernel_rfl) (by kernel_rfl) (by kernel_rfl) rfl rfl rfl rfl ?_
        refine JD_pass (i := 19) rfl (by kernel_rfl) (by kernel_rfl) (by kernel_rfl) rfl rfl rfl rfl ?_
        refine JD_pass (i := 20) rfl (by kernel_rfl) (by kernel_rfl) (by kernel_rfl) rfl rfl rfl rfl ?_
        refine JD_take (i := 21) hp13 rfl (by kernel_rfl) (by kernel_rfl) (by kernel_rfl) (wants_none rfl) rfl (ex_pick_true rfl rfl rfl) ?_
        refine JD_done (by kernel_rfl) ?_
        refine N_then ?_
        refine J_if_true rfl rfl ?_
        refine J_seq ?_
        refine J_region ?_
        refine JL_q (wants_none rfl) rfl (ex_assign rfl) ?_
        refine JL_nil ?_
        refine N_then ?_
        refine J_ret ?_
        refine N_mid_ret ?_
        refine N_then_ret ?_
        exact N_ret1 rfl (rv_tmp rfl) (fun w hh => ⟨(), rfl, hh.sel [] rfl⟩)
      · refine JD_take (i := 7) hp13 rfl (by kernel_rfl) (by kernel_rfl) (by kernel_rfl) (wants_some rfl rfl rfl h18) rfl (ex_fieldAddr fi_69_2 rfl rfl) ?_
        refine JD_take (i := 8) hp13 rfl (by kernel_rfl) (by kernel_rfl) (by kernel_rfl) (wants_some rfl rfl rfl h18) rfl (ex_load_bx 5 ti_64 rfl rfl rfl) ?_
        refine JD_take (i := 10) hp13 rfl (by kernel_rfl) (by kernel_rfl) (by kernel_rfl) (wants_some rfl rfl rfl h18) rfl (ex_fieldAddr fi_33_0 rfl rfl) ?_
        refine JD_take (i := 11) hp13 rfl (by kernel_rfl) (by kernel_rfl) (by kernel_rfl) (wants_some rfl rfl rfl h18) rfl (ex_load_bx 1 ti_2 rfl rfl rfl) ?_
        refine JD_bnd fun r19 hr20 => ?_
        refine JD_one (i := 9) (by kernel_rfl) ?_
        refine JO_call rfl (wants_some rfl rfl rfl h18) rfl Try.call48 rfl (Ca_of0 fun w hh => c_impl_size_int64 _ w (fun _ hk => hk.elim) _ _ (hh.rd0 3 rfl) _ hr20) (fun _ => ?_)
        refine JD_take (i := 12) hp13 rfl (by kernel_rfl) (by kernel_rfl) (by kernel_rfl) (wants_some rfl rfl rfl h18) rfl (ex_neq rfl rfl) ?_
        refine JD_take (i := 13) hp13 rfl (by kernel_rfl) (by kernel_rfl) (by kernel_rfl) (wants_none rfl) rfl (ex_pick_false rfl h18 rfl) ?_
        refine JD_take (i := 14) hp13 rfl (by kernel_rfl) (by kernel_rfl) (by kernel_rfl) (wants_none rfl) rfl (ex_move rfl) ?_
        refine JD_cond (fun h21 => ?_) (fun h21 => ?_)
        · refine JD_pass (i := 15) rfl (by kernel_rfl) (by kernel_rfl) (by kernel_rfl) rfl rfl h21 rfl ?_
          refine JD_pass (i := 16) rfl (by kernel_rfl) (by kernel_rfl) (by kernel_rfl) rfl rfl h21 rfl ?_
          refine JD_pass (i := 17) rfl (by kernel_rfl) (by kernel_rfl) (by kernel_rfl) rfl rfl h21 rfl ?_
          refine JD_pass (i := 18) rfl (by kernel_rfl) (by kernel_rfl) (by kernel_rfl) rfl rfl h21 rfl ?_
          refine JD_pass (i := 19) rfl (by kernel_rfl) (by kernel_rfl) (by kernel_rfl) rfl rfl h21 rfl ?_
          refine JD_pass (i := 20) rfl (by kernel_rfl) (by kernel_rfl) (by kernel_rfl) rfl rfl h21 rfl ?_
          refine JD_take (i := 21) hp13 rfl (by kernel_rfl) (by kernel_rfl) (by kernel_rfl) (wants_none rfl) rfl (ex_pick_true rfl h21 rfl) ?_
          refine JD_done (by kernel_rfl) ?_
          refine N_then ?_
          refine J_if_true rfl rfl ?_
          refine J_seq ?_
          refine J_region ?_
          refine JL_q (wants_none rfl) rfl (ex_assign rfl) ?_
          refine JL_nil ?_
          refine N_then ?_
          refine J_ret ?_
          refine N_mid_ret ?_
          refine N_then_ret ?_
          exact N_ret1 rfl (rv_tmp rfl) (fun w hh => ⟨(), rfl, hh.sel [] rfl⟩)
        · refine JD_take (i := 15) hp13 rfl (by kernel_rfl) (by kernel_rfl) (by kernel_rfl) (wants_some rfl rfl rfl h21) rfl (ex_fieldAddr fi_69_3 rfl rfl) ?_
          refine JD_take (i := 16) hp13 rfl (by kernel_rfl) (by kernel_rfl) (by kernel_rfl) (wants_some rfl rfl rfl h21) rfl (ex_load_bx 5 ti_64 rfl rfl rfl) ?_
          refine JD_take (i := 18) hp13 rfl (by kernel_rfl) (by kernel_rfl) (by kernel_rfl) (wants_some rfl rfl rfl h21) rfl (ex_fieldAddr fi_33_0 rfl rfl) ?_
          refine JD_take (i := 19) hp13 rfl (by kernel_rfl) (by kernel_rfl) (by kernel_rfl) (wants_some rfl rfl rfl h21) rfl (ex_load_bx 1 ti_2 rfl rfl rfl) ?_
          refine JD_bnd fun r22 hr23 => ?_
          refine JD_one (i := 17) (by kernel_rfl) ?_
          refine JO_call rfl (wants_some rfl rfl rfl h21) rfl Try.call48 rfl (Ca_of0 fun w hh => c_impl_size_int64 _ w (fun _ hk => hk.elim) _ _ (hh.rd0 4 rfl) _ hr23) (fun _ => ?_)
          refine JD_take (i := 20) hp13 rfl (by kernel_rfl) (by kernel_rfl) (by kernel_rfl) (wants_some rfl rfl rfl h21) rfl (ex_neq rfl rfl) ?_
          refine JD_take (i := 21) hp13 rfl (by kernel_rfl) (by kernel_rfl) (by kernel_rfl) (wants_none rfl) rfl (ex_pick_false rfl h21 rfl) ?_
          refine JD_done (by kernel_rfl) ?_
          refine N_then ?_
          refine J_if rfl (fun h24 => ?_) (fun h24 => ?_)
          · refine J_seq ?_
            refine J_region ?_
            refine JL_q (wants_none rfl) rfl (ex_assign rfl) ?_
            refine JL_nil ?_
            refine N_then ?_
            refine J_ret ?_
            refine N_mid_ret ?_
            refine N_then_ret ?_
            exact N_ret1 rfl (rv_tmp rfl) (fun w hh => ⟨(), rfl, hh.sel [] rfl⟩)
          · refine J_skip ?_
            exact N_meet' () ⟨rfl, rfl, trivial⟩ [0, 1, 2, 3, 4, 5] rfl rfl
    · refine N_then ?_
      refine J_seq ?_
      refine J_region ?_
      refine JL_q (wants_none rfl) rfl (ex_fieldAddr fi_69_1 rfl rfl) ?_
      refine JL_q (wants_none rfl) rfl (ex_load_bx 5 ti_64 rfl rfl rfl) ?_
      refine JL_q (wants_none rfl) rfl (ex_fieldAddr fi_33_1 rfl rfl) ?_
      refine JL_q (wants_none rfl) rfl (ex_load_bx 1 ti_2 rfl rfl rfl) ?_
      refine JL_q (wants_none rfl) rfl (ex_sub rfl rfl) ?_
      refine JL_bnd fun r25 hr26 => ?_
      refine JL_call (wants_none rfl) rfl Try.call49 rfl (Ca_of0 fun w hh => c_impl_allWithin _ w (fun _ hk => hk.elim) _ _ (hh.rd0 2 rfl) _ _ _ hr26) (fun _ => ?_)
      refine JL_q (wants_none rfl) rfl (ex_move rfl) ?_
      refine JL_cond (fun h27 => ?_) (fun h27 => ?_)
      · refine JL_q (wants_some rfl rfl rfl h27) rfl (ex_fieldAddr fi_69_2 rfl rfl) ?_
        refine JL_q (wants_some rfl rfl rfl h27) rfl (ex_load_bx 5 ti_64 rfl rfl rfl) ?_
        refine JL_q (wants_some rfl rfl rfl h27) rfl (ex_fieldAddr fi_33_1 rfl rfl) ?_
        refine JL_q (wants_some rfl rfl rfl h27) rfl (ex_load_bx 1 ti_2 rfl rfl rfl) ?_
        refine JL_q (wants_some rfl rfl rfl h27) rfl (ex_sub rfl rfl) ?_
        refine JL_bnd fun r28 hr29 => ?_
        refine JL_call (wants_some rfl rfl rfl h27) rfl Try.call49 rfl (Ca_of0 fun w hh => c_impl_allWithin _ w (fun _ hk => hk.elim) _ _ (hh.rd0 3 rfl) _ _ _ hr29) (fun _ => ?_)
        refine JL_q (wants_none rfl) rfl (ex_pick_true rfl h27 rfl) ?_
        refine JL_q (wants_none rfl) rfl (ex_move rfl) ?_
        refine JL_cond (fun h30 => ?_) (fun h30 => ?_)
        · refine JL_q (wants_some rfl rfl rfl h30) rfl (ex_fieldAddr fi_69_3 rfl rfl) ?_
          refine JL_q (wants_some rfl rfl rfl h30) rfl (ex_load_bx 5 ti_64 rfl rfl rfl) ?_
          refine JL_bnd fun r31 hr32 => ?_
          refine JL_call (wants_some rfl rfl rfl h30) rfl Try.call49 rfl (Ca_of0 fun w hh => c_impl_allWithin _ w (fun _ hk => hk.elim) _ _ (hh.rd0 4 rfl) _ _ _ hr32) (fun _ => ?_)
          refine JL_q (wants_none rfl) rfl (ex_pick_true rfl h30 rfl) ?_
          refine JL_q (wants_none rfl) rfl (ex_assign rfl) ?_
          refine JL_nil ?_
          refine N_then ?_
          refine J_ret ?_
          exact N_ret1 rfl (rv_tmp rfl) (fun w hh => ⟨(), rfl, hh.sel [] rfl⟩)
        · refine JL_passed rfl rfl rfl h30 ?_
          refine JL_passed rfl rfl rfl h30 ?_
          refine JL_passed rfl rfl rfl h30 ?_
          refine JL_q (wants_none rfl) rfl (ex_pick_false rfl h30 rfl) ?_
          refine JL_q (wants_none rfl) rfl (ex_assign rfl) ?_
          refine JL_nil ?_
          refine N_then ?_
          refine J_ret ?_
          exact N_ret1 rfl (rv_tmp rfl) (fun w hh => ⟨(), rfl, hh.sel [] rfl⟩)
      · refine JL_passed rfl rfl rfl h27 ?_
        refine JL_passed rfl rfl rfl h27 ?_
        refine JL_passed rfl rfl rfl h27 ?_
        refine JL_passed rfl rfl rfl h27 ?_
        refine JL_passed rfl rfl rfl h27 ?_
        refine JL_passed rfl rfl rfl h27 ?_
        refine JL_q (wants_none rfl) rfl (ex_pick_false rfl h27 rfl) ?_
        refine JL_q (wants_none rfl) rfl (ex_move rfl) ?_
        refine JL_passed rfl rfl rfl rfl ?_
        refine JL_passed rfl rfl rfl rfl ?_
        refine JL_passed rfl rfl rfl rfl ?_
        refine JL_q (wants_none rfl) rfl (ex_pick_false rfl rfl rfl) ?_
        refine JL_q (wants_none rfl) rfl (ex_assign rfl) ?_
        refine JL_nil ?_
        refine N_then ?_
        refine J_ret ?_
        exact N_ret1 rfl (rv_tmp rfl) (fun w hh => ⟨(), rfl, hh.sel [] rfl⟩)

set_option maxHeartbeats 40000000 in
theorem c_cmp_isNaN_int64 (A : Nat → Prop) (w : World) (hA : ∀ k, A k → k < w.heap.size) (p0 : Int) (r : Bool) (hr : F_cmp_isNaN_int64 p0 = some r) :
    Con Try.prog 74 [.int .i64 p0] A w (fun x_ : Unit => .bool r) (fun x_ => []) := by
  refine Con_of (v := fun (r : Bool) (x_ : Unit) => .bool r) (fs := fun r x_ => []) Try.func74 rfl Try.ntmps74 rfl (SH.start hA) rfl ?_ hr
  unfold F_cmp_isNaN_int64
  refine J_seq ?_
  refine J_region ?_
  refine JL_q (wants_none rfl) rfl (ex_assign rfl) ?_
  refine JL_nil ?_
  refine N_then ?_
  refine J_seq ?_
  refine J_region ?_
  refine JL_q (wants_none rfl) rfl (ex_move rfl) ?_
  refine JL_q (wants_none rfl) rfl (ex_move rfl) ?_
  refine JL_q (wants_none rfl) rfl (ex_neq rfl rfl) ?_
  refine JL_q (wants_none rfl) rfl (ex_assign rfl) ?_
  refine JL_nil ?_
  refine N_then ?_
  refine J_ret ?_
  exact N_ret1 rfl (rv_tmp rfl) (fun w hh => ⟨(), rfl, hh.sel [] rfl⟩)

set_option maxHeartbeats 40000000 in
theorem c_cmp_Compare_int64 (A : Nat → Prop) (w : World) (hA : ∀ k, A k → k < w.heap.size) (p0 : Int) (p1 : Int) (r : Int) (hr : F_cmp_Compare_int64 p0 p1 = some r) :
    Con Try.prog 64 [.int .i64 p0, .int .i64 p1] A w (fun x_ : Unit => .int .i64 r) (fun x_ => []) := by
  refine Con_of (v := fun (r : Int) (x_ : Unit) => .int .i64 r) (fs := fun r x_ => []) Try.func64 rfl Try.ntmps64 rfl (SH.start hA) rfl ?_ hr
  unfold F_cmp_Compare_int64
  refine J_seq ?_
  refine J_region ?_
  refine JL_q (wants_none rfl) rfl (ex_assign rfl) ?_
  refine JL_nil ?_
  refine N_then ?_
  refine J_seq ?_
  refine J_region ?_
  refine JL_q (wants_none rfl) rfl (ex_move rfl) ?_
  refine JL_bnd fun r1 hr2 => ?_
  refine JL_call (wants_none rfl) rfl Try.call74 rfl (Ca_of0 fun w hh => c_cmp_isNaN_int64 _ w (fun _ hk => hk.elim) _ _ hr2) (fun _ => ?_)
  refine JL_q (wants_none rfl) rfl (ex_assign rfl) ?_
  refine JL_nil ?_
  refine N_then ?_
  refine J_seq ?_
  refine J_region ?_
  refine JL_q (wants_none rfl) rfl (ex_move rfl) ?_
  refine JL_bnd fun r3 hr4 => ?_
  refine JL_call (wants_none rfl) rfl Try.call74 rfl (Ca_of0 fun w hh => c_cmp_isNaN_int64 _ w (fun _ hk => hk.elim) _ _ hr4) (fun _ => ?_)
  refine JL_q (wants_none rfl) rfl (ex_assign rfl) ?_
  refine JL_nil ?_
  refine N_then ?_
  refine J_seq ?_
  refine J_seq ?_
  refine J_region ?_
  refine JL_q (wants_none rfl) rfl (ex_move rfl) ?_
  refine JL_nil ?_
  refine N_then ?_
  refine J_if rfl (fun h5 => ?_) (fun h5 => ?_)
  · refine J_seq ?_
    refine J_seq ?_
    refine J_region ?_
    refine JL_q (wants_none rfl) rfl (ex_move rfl) ?_
    refine JL_nil ?_
    refine N_then ?_
    refine J_if rfl (fun h6 => ?_) (fun h6 => ?_)
    · refine J_seq ?_
      refine J_region ?_
      refine JL_q (wants_none rfl) rfl (ex_assign rfl) ?_
      refine JL_nil ?_
      refine N_then ?_
      refine J_ret ?_
      refine N_then_ret ?_
      refine N_then_ret ?_
      exact N_ret1 rfl (rv_tmp rfl) (fun w hh => ⟨(), rfl, hh.sel [] rfl⟩)
    · refine J_skip ?_
      refine N_then ?_
      refine J_seq ?_
      refine J_region ?_
      refine JL_q (wants_none rfl) rfl (ex_assign rfl) ?_
      refine JL_nil ?_
      refine N_then ?_
      refine J_ret ?_
      refine N_then_ret ?_
      exact N_ret1 rfl (rv_tmp rfl) (fun w hh => ⟨(), rfl, hh.sel [] rfl⟩)
  · refine J_skip ?_
    refine N_then ?_
    refine J_seq ?_
    refine J_seq ?_
    refine J_region ?_
    refine JL_q (wants_none rfl) rfl (ex_move rfl) ?_
    refine JL_nil ?_
    refine N_then ?_
    refine J_if rfl (fun h7 => ?_) (fun h7 => ?_)
    · refine J_seq ?_
      refine J_region ?_
      refine JL_q (wants_none rfl) rfl (ex_assign rfl) ?_
      refine JL_nil ?_
      refine N_then ?_
      refine J_ret ?_
      refine N_then_ret ?_
      exact N_ret1 rfl (rv_tmp rfl) (fun w hh => ⟨(), rfl, hh.sel [] rfl⟩)
    · refine J_skip ?_
      refine N_then ?_
      refine J_seq ?_
      refine J_seq ?_
      refine J_region ?_
      refine JL_q (wants_none rfl) rfl (ex_move rfl) ?_
      refine JL_q (wants_none rfl) rfl (ex_move rfl) ?_
      refine JL_q (wants_none rfl) rfl (ex_lss rfl rfl) ?_
      refine JL_nil ?_
      refine N_then ?_
      refine J_if rfl (fun h8 => ?_) (fun h8 => ?_)
      · refine J_seq ?_
        refine J_region ?_
        refine JL_q (wants_none rfl) rfl (ex_assign rfl) ?_
        refine JL_nil ?_
        refine N_then ?_
        refine J_ret ?_
        refine N_then_ret ?_
        exact N_ret1 rfl (rv_tmp rfl) (fun w hh => ⟨(), rfl, hh.sel [] rfl⟩)
      · refine J_skip ?_
        refine N_then ?_
        refine J_seq ?_
        refine J_seq ?_
        refine J_region ?_
        refine JL_q (wants_none rfl) rfl (ex_move rfl) ?_
        refine JL_q (wants_none rfl) rfl (ex_move rfl) ?_
        refine JL_q (wants_none rfl) rfl (ex_gtr rfl rfl) ?_
        refine JL_nil ?_
        refine N_then ?_
        refine J_if rfl (fun h9 => ?_) (fun h9 => ?_)
        · refine J_seq ?_
          refine J_region ?_
          refine JL_q (wants_none rfl) rfl (ex_assign rfl) ?_
          refine JL_nil ?_
          refine N_then ?_
          refine J_ret ?_
          refine N_then_ret ?_
          exact N_ret1 rfl (rv_tmp rfl) (fun w hh => ⟨(), rfl, hh.sel [] rfl⟩)
        · refine J_skip ?_
          refine N_then ?_
          refine J_seq ?_
          refine J_region ?_
          refine JL_q (wants_none rfl) rfl (ex_assign rfl) ?_
          refine JL_nil ?_
          refine N_then ?_
          refine J_ret ?_
          exact N_ret1 rfl (rv_tmp rfl) (fun w hh => ⟨(), rfl, hh.sel [] rfl⟩)

end Go.Proofs.Ytafjflnnkdbmdaa
