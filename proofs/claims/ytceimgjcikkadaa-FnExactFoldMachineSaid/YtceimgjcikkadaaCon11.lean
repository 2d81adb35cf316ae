/-
  Each function of the program computes what its plain function says: printed by program. No condition.
-/
import Derived.Test.YtceimgjcikkadaaFn
import Derived.Test.YtceimgjcikkadaaInf
import Derived.Test.YtceimgjcikkadaaCon1
import Derived.Test.YtceimgjcikkadaaCon2
import Derived.Test.YtceimgjcikkadaaCon6
namespace Go.Proofs.Ytceimgjcikkadaa
open Go Go.Tc Go.Fn
set_option linter.unusedVariables false

set_option maxHeartbeats 40000000 in
theorem c_spec_FoldMachine (A : Nat → Prop) (w : World) (hA : ∀ k, A k → k < w.heap.size) (v0_ : Value) (p0 : GMachine) (hp0 : Rd A w v0_ p0) (r : GMachine × Int) (hr : F_spec_FoldMachine p0 = some r) :
    Con Try.prog 15 [v0_] A w (fun x_ : Value => .tuple #[.agg #[.int .i64 r.1.Symbols, .int .i64 r.1.States, x_], .int .i64 r.2]) (fun x_ => [.ow 97 x_ r.1.Rules]) := by
  obtain ⟨v0_0, rfl, hp0_0⟩ := GMachine.open hp0
  refine Con_of (v := fun (r : GMachine × Int) (x_ : Value) => .tuple #[.agg #[.int .i64 r.1.Symbols, .int .i64 r.1.States, x_], .int .i64 r.2]) (fs := fun r x_ => [.ow 97 x_ r.1.Rules]) Try.func15 rfl Try.ntmps15 rfl ((SH.start hA).start_rd rfl hp0_0) rfl ?_ hr
  unfold F_spec_FoldMachine
  refine J_seq ?_
  refine J_region ?_
  refine JL_st (wants_none rfl) rfl (st_box' rfl (fun w hh => (cv_aggs ⟨cv_int, cv_int, (hh.cv 0 rfl), trivial⟩))) (fun b1 => ?_)
  refine JL_st (wants_none rfl) rfl (st_alloc zi_28 rfl) (fun b2 => ?_)
  refine JL_q (wants_none rfl) rfl (ex_assign rfl) ?_
  refine JL_nil ?_
  refine N_then ?_
  refine J_seq ?_
  refine J_seq ?_
  refine J_region ?_
  refine JL_bnd fun r3 hr4 => ?_
  refine JL_call (wants_none rfl) rfl Try.call29 rfl (Ca_of0 fun w hh => c_spec_l05Is _ w (fun _ hk => hk.elim) _ _ (hh.bx_pa 1 rfl (GMachine.rdmk (Rd.mk_int _ _ _) (Rd.mk_int _ _ _) (hh.rd0 2 rfl)) rfl) _ hr4) (fun _ => ?_)
  refine JL_q (wants_none rfl) rfl (ex_not rfl) ?_
  refine JL_nil ?_
  refine N_then ?_
  refine J_if rfl (fun h5 => ?_) (fun h5 => ?_)
  · refine J_seq ?_
    refine J_region ?_
    refine JL_q (wants_none rfl) rfl (ex_build si_28 rfl .nil (fun w hh => trivial)) ?_
    refine JL_sk (wants_none rfl) (sk_store_bx' 0 ti_28 rfl rfl (fun w hh => (cv_aggs ⟨cv_int, cv_int, cv_slice, trivial⟩)) rfl rfl rfl rfl) ?_
    refine JL_q (wants_none rfl) rfl (ex_assign rfl) ?_
    refine JL_nil ?_
    refine N_then ?_
    refine J_ret ?_
    refine N_then_ret ?_
    refine N_ctx (fun w hh => SH.ow_nil (α := GRule) 97 hh) ?_
    exact N_ret2 rfl (rv_cell 1 rfl rfl ti_28 rfl) (rv_tmp rfl) (fun w hh => ⟨(.slice none 0 0 : Value), rfl, hh.sel [0] rfl⟩)
  · refine J_skip ?_
    refine N_then ?_
    refine J_seq ?_
    refine J_region ?_
    refine JL_inline (wants_none rfl) rfl Try.call38 rfl Try.func38 rfl Try.ntmps38 rfl rfl (fun K_ hK6 => ?_)
    refine J_seq ?_
    refine J_region ?_
    refine JL_q (wants_none rfl) rfl (ex_assign rfl) ?_
    refine JL_q (wants_none rfl) rfl (ex_assign rfl) ?_
    refine JL_nil ?_
    refine N_then ?_
    refine J_seq ?_
    refine J_region ?_
    refine JL_q (wants_none rfl) rfl (ex_move rfl) ?_
    refine JL_q (wants_none rfl) rfl (ex_build si_55 rfl (.cons fi_55_0 rfl rfl (.cons fi_55_2 rfl rfl .nil)) (fun w hh => ⟨cv_ptr, cv_int, trivial⟩)) ?_
    refine JL_st (wants_none rfl) rfl (st_box' rfl (fun w hh => (cv_aggs ⟨cv_ptr, cv_ptr, cv_int, cv_slice, cv_int, cv_int, cv_slice, trivial⟩))) (fun b7 => ?_)
    refine JL_q (wants_none rfl) rfl (ex_assign rfl) ?_
    refine JL_nil ?_
    refine N_then ?_
    refine J_seq ?_
    refine J_seq ?_
    refine J_region ?_
    refine JL_q (wants_none rfl) rfl (ex_move rfl) ?_
    refine JL_q (wants_none rfl) rfl (ex_nilCheck rfl) ?_
    refine JL_q (wants_none rfl) rfl (ex_fieldAddr fi_28_0 rfl rfl) ?_
    refine JL_q (wants_none rfl) rfl (ex_load_bx 2 ti_2 rfl rfl rfl) ?_
    refine JL_q (wants_none rfl) rfl (ex_eql rfl rfl) ?_
    refine JL_nil ?_
    refine N_then ?_
    refine J_if rfl (fun h8 => ?_) (fun h8 => ?_)
    · refine J_seq ?_
      refine J_region ?_
      refine JL_q (wants_none rfl) rfl (ex_move rfl) ?_
      refine JL_q (wants_none rfl) rfl (ex_assign rfl) ?_
      refine JL_q (wants_none rfl) rfl (ex_assign rfl) ?_
      refine JL_nil ?_
      refine N_then ?_
      refine J_ret ?_
      refine N_then_ret ?_
      refine N_inl2 hK6 rfl (rv_tmp rfl) (rv_tmp rfl) ?_
      refine JL_q (wants_none rfl) rfl (ex_move rfl) ?_
      refine JL_q (wants_none rfl) rfl (ex_extract rfl rfl) ?_
      refine JL_q (wants_none rfl) rfl (ex_extract rfl rfl) ?_
      refine JL_q (wants_none rfl) rfl (ex_assign rfl) ?_
      refine JL_q (wants_none rfl) rfl (ex_assign rfl) ?_
      refine JL_nil ?_
      refine N_then ?_
      refine J_seq ?_
      refine J_seq ?_
      refine J_region ?_
      refine JL_q (wants_none rfl) rfl (ex_move rfl) ?_
      refine JL_q (wants_none rfl) rfl (ex_not rfl) ?_
      refine JL_nil ?_
      refine N_then ?_
      refine J_if_true rfl (by rw [show (false) = false from rfl]; rfl) ?_
      refine J_seq ?_
      refine J_region ?_
      refine JL_q (wants_none rfl) rfl (ex_build si_28 rfl .nil (fun w hh => trivial)) ?_
      refine JL_sk (wants_none rfl) (sk_store_bx' 1 ti_28 rfl rfl (fun w hh => (cv_aggs ⟨cv_int, cv_int, cv_slice, trivial⟩)) rfl rfl rfl rfl) ?_
      refine JL_q (wants_none rfl) rfl (ex_assign rfl) ?_
      refine JL_nil ?_
      refine N_then ?_
      refine J_ret ?_
      refine N_then_ret ?_
      refine N_ctx (fun w hh => SH.ow_nil (α := GRule) 97 hh) ?_
      exact N_ret2 rfl (rv_cell 2 rfl rfl ti_28 rfl) (rv_tmp rfl) (fun w hh => ⟨(.slice none 0 0 : Value), rfl, hh.sel [0] rfl⟩)
    · refine J_skip ?_
      refine N_then ?_
      refine J_seq ?_
      refine J_region ?_
      refine JL_q (wants_none rfl) rfl (ex_move rfl) ?_
      refine JL_q (wants_none rfl) rfl (ex_move rfl) ?_
      refine JL_q (wants_none rfl) rfl (ex_nilCheck rfl) ?_
      refine JL_q (wants_none rfl) rfl (ex_fieldAddr fi_28_0 rfl rfl) ?_
      refine JL_q (wants_none rfl) rfl (ex_load_bx 2 ti_2 rfl rfl rfl) ?_
      refine JL_q (wants_none rfl) rfl (ex_add rfl rfl) ?_
      refine JL_st (wants_none rfl) rfl (st_buildSlice (vs := [.int .i64 0, .int .i64 0, .int .i64 0]) ([0, 0, 0] : List Int) Try.underlying35 ti_2 zi_2 rfl rfl rfl (fun w hh => ⟨(Rd.mk_int _ _ _), (Rd.mk_int _ _ _), (Rd.mk_int _ _ _), trivial⟩)) (fun b9 => ?_)
      refine JL_inline (wants_none rfl) rfl Try.call67 rfl Try.func67 rfl Try.ntmps67 rfl rfl (fun K_ hK10 => ?_)
      refine J_seq ?_
      refine J_region ?_
      refine JL_q (wants_none rfl) rfl (ex_assign rfl) ?_
      refine JL_nil ?_
      refine N_then ?_
      refine J_seq ?_
      refine J_region ?_
      refine JL_q (wants_none rfl) rfl (ex_move rfl) ?_
      refine JL_q (wants_none rfl) rfl (ex_move rfl) ?_
      refine JL_ctx (fun w hh => hh.tokf 0 rfl rfl) ?_
      refine JL_st (wants_none rfl) rfl (st_buildSlice_od (vs := [(.slice (some ⟨b9, 0, none⟩) 3 3)]) (B := ((((.slice (some ⟨b9, 0, none⟩) 3 3) : Value).ownBlock.toList ++ []) ++ [])) ([([0, 0, 0] : List Int)] : List (List Int)) [0] Try.underlying53 ti_35 zi_35 rfl rfl rfl rfl rfl (fun w hh => (dwv_cons (hh.dw 0 rfl) dwv_nil))) (fun b11 => ?_)
      refine JL_q (wants_none rfl) rfl (ex_nilCheck rfl) ?_
      refine JL_q (wants_none rfl) rfl (ex_fieldAddr fi_55_3 rfl rfl) ?_
      refine JL_sk (wants_none rfl) (sk_store_bx' 3 ti_53 rfl rfl (fun w hh => (hh.cv_od 0 rfl)) rfl rfl rfl rfl) ?_
      refine JL_nil ?_
      refine N_then ?_
      refine J_seq ?_
      refine J_region ?_
      refine JL_q (wants_none rfl) rfl (ex_move rfl) ?_
      refine JL_q (wants_none rfl) rfl (ex_move rfl) ?_
      refine JL_st (wants_none rfl) rfl (st_buildSlice (vs := []) ([] : List GRule) Try.underlying26 ti_97 zi_97 rfl rfl rfl (fun w hh => trivial)) (fun b12 => ?_)
      refine JL_q (wants_none rfl) rfl (ex_build si_28 rfl (.cons fi_28_0 rfl rfl (.cons fi_28_2 rfl rfl .nil)) (fun w hh => ⟨cv_int, (hh.cv_ow 0 rfl), trivial⟩)) ?_
      refine JL_q (wants_none rfl) rfl (ex_nilCheck rfl) ?_
      refine JL_q (wants_none rfl) rfl (ex_fieldAddr fi_55_4 rfl rfl) ?_
      refine JL_sk (wants_none rfl) (sk_store_bx' 4 ti_28 rfl rfl (fun w hh => (cv_aggs ⟨cv_int, cv_int, (hh.cv_ow 0 rfl), trivial⟩)) rfl rfl rfl rfl) ?_
      refine JL_nil ?_
      refine N_then ?_
      refine J_seq ?_
      refine J_seq ?_
      refine J_region ?_
      refine JL_q (wants_none rfl) rfl (ex_assign rfl) ?_
      refine JL_nil ?_
      refine N_then ?_
      refine J_loop' (S := (List (List Int)) × (List GRule) × Int) (G := Value × List Nat × Value) (F_spec_FoldMachine_L1 p0) (fun s13 g14 => [(0, .pointer (some ⟨b7, 0, none⟩)), (1, .int .i64 (w64 (p0.Symbols + 1))), (7, .int .i64 s13.2.2)]) (fun s13 g14 => [.rd v0_0 p0.Rules, .bx b1 28 [.int .i64 p0.Symbols, .int .i64 p0.States, v0_0], .od 35 g14.1 s13.1 g14.2.1, .ow 97 g14.2.2 s13.2.1, .bx b7 55 [.pointer (some ⟨b1, 0, none⟩), .pointer none, .int .i64 1, g14.1, .int .i64 (w64 (p0.Symbols + 1)), .int .i64 0, g14.2.2], .bx b2 28 [.int .i64 0, .int .i64 0, .slice none 0 0]]) (([([0, 0, 0] : List Int)] : List (List Int)), ([] : List GRule), 0) ((.slice (some ⟨b11, 0, none⟩) 1 1), ((((.slice (some ⟨b9, 0, none⟩) 3 3) : Value).ownBlock.toList ++ []) ++ []), (.slice (some ⟨b12, 0, none⟩) 0 0)) ⟨rfl, rfl, rfl, trivial⟩ [7, 6, 1, 0, 4, 5] rfl rfl (fun s13 g14 => ?_) (fun s13 g14 => ?_)
      · obtain ⟨g14_0, g14_1, g14_2⟩ := g14
        unfold F_spec_FoldMachine_L1
        refine J_seq ?_
        refine J_seq ?_
        refine J_region ?_
        refine JL_q (wants_none rfl) rfl (ex_move rfl) ?_
        refine JL_q (wants_none rfl) rfl (ex_move rfl) ?_
        refine JL_q (wants_none rfl) rfl (ex_nilCheck rfl) ?_
        refine JL_q (wants_none rfl) rfl (ex_fieldAddr fi_55_3 rfl rfl) ?_
        refine JL_q (wants_none rfl) rfl (ex_load_bx 4 ti_53 rfl rfl rfl) ?_
        refine JL_q (wants_none rfl) rfl (ex_od 2 rfl (ex_len_ow 2 Try.underlying53 rfl rfl)) ?_
        refine JL_q (wants_none rfl) rfl (ex_lss rfl rfl) ?_
        refine JL_nil ?_
        refine N_then ?_
        refine J_if rfl (fun h15 => ?_) (fun h15 => ?_)
        · refine J_skip ?_
          refine N_then ?_
          refine J_seq ?_
          refine J_block ?_
          refine J_seq ?_
          refine J_region ?_
          refine JL_q (wants_none rfl) rfl (ex_assign rfl) ?_
          refine JL_nil ?_
          refine N_then ?_
          refine J_loop' (S := (List (List Int)) × (List GRule) × Int) (G := Value × List Nat × Value) (F_spec_FoldMachine_L2 p0 s13) (fun s16 g17 => [(0, .pointer (some ⟨b7, 0, none⟩)), (1, .int .i64 (w64 (p0.Symbols + 1))), (7, .int .i64 s13.2.2), (8, .int .i64 s16.2.2)]) (fun s16 g17 => [.rd v0_0 p0.Rules, .bx b1 28 [.int .i64 p0.Symbols, .int .i64 p0.States, v0_0], .od 35 g17.1 s16.1 g17.2.1, .ow 97 g17.2.2 s16.2.1, .bx b7 55 [.pointer (some ⟨b1, 0, none⟩), .pointer none, .int .i64 1, g17.1, .int .i64 (w64 (p0.Symbols + 1)), .int .i64 0, g17.2.2], .bx b2 28 [.int .i64 0, .int .i64 0, .slice none 0 0]]) (s13.1, s13.2.1, 0) (g14_0, g14_1, g14_2) ⟨rfl, rfl, rfl, rfl, trivial⟩ [0, 1, 2, 3, 4, 5] rfl rfl (fun s16 g17 => ?_) (fun s16 g17 => ?_)
          · obtain ⟨g17_0, g17_1, g17_2⟩ := g17
            unfold F_spec_FoldMachine_L2
            refine J_seq ?_
            refine J_seq ?_
            refine J_region ?_
            refine JL_q (wants_none rfl) rfl (ex_move rfl) ?_
            refine JL_q (wants_none rfl) rfl (ex_move rfl) ?_
            refine JL_q (wants_none rfl) rfl (ex_lss rfl rfl) ?_
            refine JL_nil ?_
            refine N_then ?_
            refine J_if rfl (fun h18 => ?_) (fun h18 => ?_)
            · refine J_skip ?_
              refine N_then ?_
              refine J_seq ?_
              refine J_block ?_
              refine J_seq ?_
              refine J_region ?_
              refine JL_q (wants_none rfl) rfl (ex_move rfl) ?_
              refine JL_q (wants_none rfl) rfl (ex_move rfl) ?_
              refine JL_q (wants_none rfl) rfl (ex_nilCheck rfl) ?_
              refine JL_q (wants_none rfl) rfl (ex_fieldAddr fi_55_3 rfl rfl) ?_
              refine JL_q (wants_none rfl) rfl (ex_load_bx 4 ti_53 rfl rfl rfl) ?_
              refine JL_q (wants_none rfl) rfl (ex_move rfl) ?_
              refine JL_bnd fun y19 hy20 => ?_
              refine JL_od_open (v := g17_0) 2 rfl hy20 ?_; rintro b21 cap22 rfl
              refine JL_q (wants_none rfl) rfl (ex_od 2 rfl (ex_index_ow 2 Try.underlying53 ti_35 rfl rfl rfl hy20)) ?_
              refine JL_st (wants_none rfl) rfl (st_od 2 rfl (st_load_ow_o 2 (opens_sl _) ti_35 rfl rfl hy20) (fun _ => rfl)) (fun v23 => ?_)
              refine JL_q (wants_none rfl) rfl (ex_move rfl) ?_
              refine JL_inline (wants_none rfl) rfl Try.call93 rfl Try.func93 rfl Try.ntmps93 rfl rfl (fun K_ hK24 => ?_)
              refine J_seq ?_
              refine J_region ?_
              refine JL_st (wants_none rfl) rfl (st_alloc zi_129 rfl) (fun b25 => ?_)
              refine JL_nil ?_
              refine N_then ?_
              refine J_seq ?_
              refine J_seq ?_
              refine J_region ?_
              refine JL_q (wants_none rfl) rfl (ex_move rfl) ?_
              refine JL_q (wants_none rfl) rfl (ex_nilCheck rfl) ?_
              refine JL_q (wants_none rfl) rfl (ex_fieldAddr fi_55_2 rfl rfl) ?_
              refine JL_q (wants_none rfl) rfl (ex_load_bx 6 ti_2 rfl rfl rfl) ?_
              refine JL_nil ?_
              refine N_then ?_
              refine J_block ?_
              refine J_seq ?_
              refine J_region ?_
              refine JL_q (wants_none rfl) rfl (ex_eql rfl rfl) ?_
              refine JL_q (wants_none rfl) rfl (ex_assign rfl) ?_
              refine JL_nil ?_
              refine N_then ?_
              refine J_if_true rfl (by decide) ?_
              refine J_seq ?_
              refine J_region ?_
              refine JL_q (wants_none rfl) rfl (ex_move rfl) ?_
              refine JL_q (wants_none rfl) rfl (ex_nilCheck rfl) ?_
              refine JL_q (wants_none rfl) rfl (ex_fieldAddr fi_55_0 rfl rfl) ?_
              refine JL_q (wants_none rfl) rfl (ex_load_bx 6 ti_48 rfl rfl rfl) ?_
              refine JL_q (wants_none rfl) rfl (ex_move rfl) ?_
              refine JL_q (wants_none rfl) rfl (ex_move rfl) ?_
              refine JL_bnd fun r26 hr27 => ?_
              refine JL_call (wants_none rfl) rfl Try.call106 rfl (Ca_self (fun _ => rfl) fun w hh => c_spec_l13Fold _ w (fun _ hk => hk.elim) _ _ (hh.bx_pa 3 rfl (GMachine.rdmk (Rd.mk_int _ _ _) (Rd.mk_int _ _ _) (hh.rd0 2 rfl)) rfl) _ _ (hh.rd0 1 rfl) _ _ hr27) (fun x28 => ?_)
              obtain ⟨x28_0, x28_1⟩ := x28
              refine JL_ctx (fun w hh => hh.tkn_rd 0 rfl) ?_
              refine JL_sk (wants_none rfl) (sk_store_bx' 2 ti_129 rfl rfl (fun w hh => (cv_aggs ⟨cv_bool, cv_int, cv_int, (hh.cv 0 rfl), trivial⟩)) rfl rfl rfl rfl) ?_
              refine JL_nil ?_
              refine N_then ?_
              refine J_ret ?_
              refine N_block_ret ?_
              refine N_then_ret ?_
              refine N_inl1 hK24 rfl (rv_cell 2 rfl rfl ti_129 rfl) ?_
              refine JL_st (wants_none rfl) rfl (st_alloc zi_129 rfl) (fun b29 => ?_)
              refine JL_sk (wants_none rfl) (sk_store_bx' 0 ti_129 rfl rfl (fun w hh => (cv_aggs ⟨cv_bool, cv_int, cv_int, (hh.cv 1 rfl), trivial⟩)) rfl rfl rfl rfl) ?_
              refine JL_nil ?_
              refine N_then ?_
              refine J_seq ?_
              refine J_seq ?_
              refine J_region ?_
              refine JL_q (wants_none rfl) rfl (ex_fieldAddr fi_129_0 rfl rfl) ?_
              refine JL_q (wants_none rfl) rfl (ex_load_bx 0 ti_4 rfl rfl rfl) ?_
              refine JL_q (wants_none rfl) rfl (ex_not rfl) ?_
              refine JL_nil ?_
              refine N_then ?_
              refine J_if rfl (fun h30 => ?_) (fun h30 => ?_)
              · refine J_seq ?_
                refine J_cut' (S' := (List GRule)) (G' := Value) (fun s31 g32 => [(0, .pointer (some ⟨b7, 0, none⟩)), (1, .int .i64 (w64 (p0.Symbols + 1))), (7, .int .i64 s13.2.2), (8, .int .i64 s16.2.2)]) (fun s31 g32 => [.rd v0_0 p0.Rules, .bx b1 28 [.int .i64 p0.Symbols, .int .i64 p0.States, v0_0], .od 35 (.slice (some ⟨b21, 0, none⟩) s16.1.length cap22) s16.1 g17_1, .ow 97 g32 s31, .bx b7 55 [.pointer (some ⟨b1, 0, none⟩), .pointer none, .int .i64 1, (.slice (some ⟨b21, 0, none⟩) s16.1.length cap22), .int .i64 (w64 (p0.Symbols + 1)), .int .i64 0, g32], .bx b2 28 [.int .i64 0, .int .i64 0, .slice none 0 0]]) ?_ (fun s31 g32 => ?_)
                · refine J_draw [8, 9] (by kernel_rfl) ?_
                  refine JP_take (i := 0) [0, 1, 2, 3, 4, 5, 6, 7, 10] [8, 9] rfl (by kernel_rfl) (by kernel_rfl) (by kernel_rfl) rfl rfl (wants_none rfl) rfl (ex_move rfl) ?_
                  refine JP_take (i := 1) [0, 1, 2, 3, 4, 5, 6, 7, 10] [8, 9] rfl (by kernel_rfl) (by kernel_rfl) (by kernel_rfl) rfl rfl (wants_none rfl) rfl (ex_move rfl) ?_
                  refine JP_take (i := 2) [0, 1, 2, 3, 4, 5, 6, 7, 10] [8, 9] rfl (by kernel_rfl) (by kernel_rfl) (by kernel_rfl) rfl rfl (wants_none rfl) rfl (ex_nilCheck rfl) ?_
                  refine JP_take (i := 3) [0, 1, 2, 3, 4, 5, 6, 7, 10] [8, 9] rfl (by kernel_rfl) (by kernel_rfl) (by kernel_rfl) rfl rfl (wants_none rfl) rfl (ex_fieldAddr fi_55_4 rfl rfl) ?_
                  refine JP_take (i := 4) [0, 1, 2, 3, 4, 5, 6, 7, 10] [8, 9] rfl (by kernel_rfl) (by kernel_rfl) (by kernel_rfl) rfl rfl (wants_none rfl) rfl (ex_fieldAddr fi_28_2 rfl rfl) ?_
                  refine JP_go [0, 1, 2, 3, 4, 5, 6, 7, 10] [8, 9] rfl rfl rfl (fun w34 h1_35 hp33 => ?_)
                  refine JD_bnd fun r36 hr37 => ?_
                  refine JD_two (i := 5) (j := 6) (by kernel_rfl) ?_ ?_
                  · refine JO_q rfl (wants_none rfl) rfl (ex_load_bx 9 ti_26 rfl rfl rfl) ?_
                    refine JD_one (i := 6) (by kernel_rfl) ?_
                    refine JO_call rfl (wants_none rfl) rfl Try.call92 rfl (Ca_of0 fun w hh => c_spec_l05None _ w (fun _ hk => hk.elim)  _ hr37) (fun _ => ?_)
                    refine JD_one (i := 7) (by kernel_rfl) ?_
                    refine JO_st rfl (wants_none rfl) rfl (st_buildSlice (vs := [.agg #[.int .i64 r36.Write, .int .i64 r36.Move, .int .i64 r36.Next]]) ([r36] : List GRule) Try.underlying26 ti_97 zi_97 rfl rfl rfl (fun w hh => ⟨(GRule.rdmk (Rd.mk_int _ _ _) (Rd.mk_int _ _ _) (Rd.mk_int _ _ _)), trivial⟩)) (fun _ hk => nomatch hk) (fun b38 => ?_)
                    refine JD_bnd fun z39 hz40 => ?_
                    refine JD_one (i := 8) (by kernel_rfl) ?_
                    refine JO_st rfl (wants_none rfl) rfl (st_append 9 Try.underlying26 ti_97 zi_97 rfl bi_97 rfl rfl rfl rfl (fun w hh => hh.src_ow 0 rfl) hz40) (sub_ow 0 rfl) (fun v41 => ?_)
                    refine JD_take (i := 9) hp33 rfl (by kernel_rfl) (by kernel_rfl) (by kernel_rfl) (wants_none rfl) rfl (ex_nilCheck rfl) ?_
                    refine JD_take (i := 10) hp33 rfl (by kernel_rfl) (by kernel_rfl) (by kernel_rfl) (wants_none rfl) rfl (ex_fieldAddr fi_55_4 rfl rfl) ?_
                    refine JD_take (i := 11) hp33 rfl (by kernel_rfl) (by kernel_rfl) (by kernel_rfl) (wants_none rfl) rfl (ex_fieldAddr fi_28_2 rfl rfl) ?_
                    refine JD_one (i := 12) (by kernel_rfl) ?_
                    refine JO_sk rfl (wants_none rfl) (sk_store_bx' 10 ti_26 rfl rfl (fun w hh => (hh.cv_ow 9 rfl)) rfl rfl rfl rfl) (sub_bx 1 rfl) ?_
                    refine JD_done (by kernel_rfl) ?_
                    exact N_meet' v41 ⟨rfl, rfl, rfl, rfl, trivial⟩ [6, 7, 8, 9, 10, 11] rfl rfl
                  · refine JO_call rfl (wants_none rfl) rfl Try.call92 rfl (Ca_of0 fun w hh => c_spec_l05None _ w (fun _ hk => hk.elim)  _ hr37) (fun _ => ?_)
                    refine JD_two (i := 5) (j := 7) (by kernel_rfl) ?_ ?_
                    · refine JO_q rfl (wants_none rfl) rfl (ex_load_bx 9 ti_26 rfl rfl rfl) ?_
                      refine JD_one (i := 7) (by kernel_rfl) ?_
                      refine JO_st rfl (wants_none rfl) rfl (st_buildSlice (vs := [.agg #[.int .i64 r36.Write, .int .i64 r36.Move, .int .i64 r36.Next]]) ([r36] : List GRule) Try.underlying26 ti_97 zi_97 rfl rfl rfl (fun w hh => ⟨(GRule.rdmk (Rd.mk_int _ _ _) (Rd.mk_int _ _ _) (Rd.mk_int _ _ _)), trivial⟩)) (fun _ hk => nomatch hk) (fun b42 => ?_)
                      refine JD_bnd fun z43 hz44 => ?_
                      refine JD_one (i := 8) (by kernel_rfl) ?_
                      refine JO_st rfl (wants_none rfl) rfl (st_append 9 Try.underlying26 ti_97 zi_97 rfl bi_97 rfl rfl rfl rfl (fun w hh => hh.src_ow 0 rfl) hz44) (sub_ow 0 rfl) (fun v45 => ?_)
                      refine JD_take (i := 9) hp33 rfl (by kernel_rfl) (by kernel_rfl) (by kernel_rfl) (wants_none rfl) rfl (ex_nilCheck rfl) ?_
                      refine JD_take (i := 10) hp33 rfl (by kernel_rfl) (by kernel_rfl) (by kernel_rfl) (wants_none rfl) rfl (ex_fieldAddr fi_55_4 rfl rfl) ?_
                      refine JD_take (i := 11) hp33 rfl (by kernel_rfl) (by kernel_rfl) (by kernel_rfl) (wants_none rfl) rfl (ex_fieldAddr fi_28_2 rfl rfl) ?_
                      refine JD_one (i := 12) (by kernel_rfl) ?_
                      refine JO_sk rfl (wants_none rfl) (sk_store_bx' 10 ti_26 rfl rfl (fun w hh => (hh.cv_ow 9 rfl)) rfl rfl rfl rfl) (sub_bx 1 rfl) ?_
                      refine JD_done (by kernel_rfl) ?_
                      exact N_meet' v45 ⟨rfl, rfl, rfl, rfl, trivial⟩ [6, 7, 8, 9, 10, 11] rfl rfl
                    · refine JO_st rfl (wants_none rfl) rfl (st_buildSlice (vs := [.agg #[.int .i64 r36.Write, .int .i64 r36.Move, .int .i64 r36.Next]]) ([r36] : List GRule) Try.underlying26 ti_97 zi_97 rfl rfl rfl (fun w hh => ⟨(GRule.rdmk (Rd.mk_int _ _ _) (Rd.mk_int _ _ _) (Rd.mk_int _ _ _)), trivial⟩)) (fun _ hk => nomatch hk) (fun b46 => ?_)
                      refine JD_one (i := 5) (by kernel_rfl) ?_
                      refine JO_q rfl (wants_none rfl) rfl (ex_load_bx 10 ti_26 rfl rfl rfl) ?_
                      refine JD_bnd fun z47 hz48 => ?_
                      refine JD_one (i := 8) (by kernel_rfl) ?_
                      refine JO_st rfl (wants_none rfl) rfl (st_append 9 Try.underlying26 ti_97 zi_97 rfl bi_97 rfl rfl rfl rfl (fun w hh => hh.src_ow 0 rfl) hz48) (sub_ow 0 rfl) (fun v49 => ?_)
                      refine JD_take (i := 9) hp33 rfl (by kernel_rfl) (by kernel_rfl) (by kernel_rfl) (wants_none rfl) rfl (ex_nilCheck rfl) ?_
                      refine JD_take (i := 10) hp33 rfl (by kernel_rfl) (by kernel_rfl) (by kernel_rfl) (wants_none rfl) rfl (ex_fieldAddr fi_55_4 rfl rfl) ?_
                      refine JD_take (i := 11) hp33 rfl (by kernel_rfl) (by kernel_rfl) (by kernel_rfl) (wants_none rfl) rfl (ex_fieldAddr fi_28_2 rfl rfl) ?_
                      refine JD_one (i := 12) (by kernel_rfl) ?_
                      refine JO_sk rfl (wants_none rfl) (sk_store_bx' 10 ti_26 rfl rfl (fun w hh => (hh.cv_ow 9 rfl)) rfl rfl rfl rfl) (sub_bx 1 rfl) ?_
                      refine JD_done (by kernel_rfl) ?_
                      exact N_meet' v49 ⟨rfl, rfl, rfl, rfl, trivial⟩ [6, 7, 8, 9, 10, 11] rfl rfl
                · refine N_then ?_
                  refine J_exit ?_
                  refine N_then_exit ?_
                  refine N_block_exit ?_
                  refine N_then ?_
                  refine J_region ?_
                  refine JL_q (wants_none rfl) rfl (ex_move rfl) ?_
                  refine JL_q (wants_none rfl) rfl (ex_add rfl rfl) ?_
                  refine JL_q (wants_none rfl) rfl (ex_assign rfl) ?_
                  refine JL_nil ?_
                  exact N_next' ((.slice (some ⟨b21, 0, none⟩) s16.1.length cap22), g17_1, g32) ⟨rfl, rfl, rfl, rfl, trivial⟩ [0, 1, 2, 3, 4, 5] rfl rfl
              · refine J_skip ?_
                refine N_then ?_
                refine J_seq ?_
                refine J_region ?_
                refine JL_q (wants_none rfl) rfl (ex_move rfl) ?_
                refine JL_q (wants_none rfl) rfl (ex_fieldAddr fi_129_3 rfl rfl) ?_
                refine JL_q (wants_none rfl) rfl (ex_load_bx 0 ti_35 rfl rfl rfl) ?_
                refine JL_inline (wants_none rfl) rfl Try.call43 rfl Try.func43 rfl Try.ntmps43 rfl rfl (fun K_ hK50 => ?_)
                refine J_seq ?_
                refine J_region ?_
                refine JL_q (wants_none rfl) rfl (ex_assign rfl) ?_
                refine JL_nil ?_
                refine N_then ?_
                refine J_seq ?_
                refine J_seq ?_
                refine J_region ?_
                refine JL_q (wants_none rfl) rfl (ex_assign rfl) ?_
                refine JL_nil ?_
                refine N_then ?_
                refine J_loop' (S := Int) (G := Unit) (F_spec_FoldMachine_L3 s16 r26) (fun s51 _ => [(0, .pointer (some ⟨b7, 0, none⟩)), (1, x28_0), (5, .int .i64 s51)]) (fun s51 _ => [.rd v0_0 p0.Rules, .bx b1 28 [.int .i64 p0.Symbols, .int .i64 p0.States, v0_0], .od 35 (.slice (some ⟨b21, 0, none⟩) s16.1.length cap22) s16.1 g17_1, .ow 97 g17_2 s16.2.1, .bx b7 55 [.pointer (some ⟨b1, 0, none⟩), .pointer none, .int .i64 1, (.slice (some ⟨b21, 0, none⟩) s16.1.length cap22), .int .i64 (w64 (p0.Symbols + 1)), .int .i64 0, g17_2], .rd x28_0 r26.next, .tkn x28_0 r26.next x28_1, .bx b2 28 [.int .i64 0, .int .i64 0, .slice none 0 0], .bx b29 129 [.bool r26.ok, .int .i64 r26.write, .int .i64 r26.move, x28_0]]) 0 () ⟨rfl, rfl, rfl, trivial⟩ [5, 6, 7, 8, 9, 1, 2, 10, 0] rfl rfl (fun s51 g52 => ?_) (fun s51 g52 => ?_)
                · unfold F_spec_FoldMachine_L3
                  refine J_seq ?_
                  refine J_seq ?_
                  refine J_region ?_
                  refine JL_q (wants_none rfl) rfl (ex_move rfl) ?_
                  refine JL_q (wants_none rfl) rfl (ex_move rfl) ?_
                  refine JL_q (wants_none rfl) rfl (ex_nilCheck rfl) ?_
                  refine JL_q (wants_none rfl) rfl (ex_fieldAddr fi_55_3 rfl rfl) ?_
                  refine JL_q (wants_none rfl) rfl (ex_load_bx 4 ti_53 rfl rfl rfl) ?_
                  refine JL_q (wants_none rfl) rfl (ex_od 2 rfl (ex_len_ow 2 Try.underlying53 rfl rfl)) ?_
                  refine JL_q (wants_none rfl) rfl (ex_lss rfl rfl) ?_
                  refine JL_nil ?_
                  refine N_then ?_
                  refine J_if rfl (fun h53 => ?_) (fun h53 => ?_)
                  · refine J_skip ?_
                    refine N_then ?_
                    refine J_seq ?_
                    refine J_block ?_
                    refine J_seq ?_
                    refine J_region ?_
                    refine JL_q (wants_none rfl) rfl (ex_move rfl) ?_
                    refine JL_q (wants_none rfl) rfl (ex_nilCheck rfl) ?_
                    refine JL_q (wants_none rfl) rfl (ex_fieldAddr fi_55_3 rfl rfl) ?_
                    refine JL_q (wants_none rfl) rfl (ex_load_bx 4 ti_53 rfl rfl rfl) ?_
                    refine JL_q (wants_none rfl) rfl (ex_move rfl) ?_
                    refine JL_bnd fun y54 hy55 => ?_
                    refine JL_q (wants_none rfl) rfl (ex_od 2 rfl (ex_index_ow 2 Try.underlying53 ti_35 rfl rfl rfl hy55)) ?_
                    refine JL_st (wants_none rfl) rfl (st_od 2 rfl (st_load_ow_o 2 (opens_sl _) ti_35 rfl rfl hy55) (fun _ => rfl)) (fun v56 => ?_)
                    refine JL_q (wants_none rfl) rfl (ex_move rfl) ?_
                    refine JL_bnd fun r57 hr58 => ?_
                    refine JL_call (wants_none rfl) rfl Try.call83 rfl (Ca_of0 fun w hh => c_spec_l00Same _ w (fun _ hk => hk.elim) _ _ (hh.rd0 0 rfl) _ _ (hh.rd0 6 rfl) _ hr58) (fun _ => ?_)
                    refine JL_nil ?_
                    refine N_then ?_
                    refine J_if rfl (fun h59 => ?_) (fun h59 => ?_)
                    · refine J_seq ?_
                      refine J_region ?_
                      refine JL_q (wants_none rfl) rfl (ex_move rfl) ?_
                      refine JL_q (wants_none rfl) rfl (ex_assign rfl) ?_
                      refine JL_nil ?_
                      refine N_then ?_
                      refine J_ret ?_
                      refine N_block_ret ?_
                      refine N_then_ret ?_
                      refine N_round_reti ?_
                      refine N_then_ret ?_
                      refine N_inl1 hK50 rfl (rv_tmp rfl) ?_
                      refine JL_q (wants_none rfl) rfl (ex_assign rfl) ?_
                      refine JL_nil ?_
                      refine N_then ?_
                      refine J_seq ?_
                      refine J_cut' (S' := (List (List Int)) × Int) (G' := Value × List Nat) (fun s60 g61 => [(0, .pointer (some ⟨b7, 0, none⟩)), (1, .int .i64 (w64 (p0.Symbols + 1))), (7, .int .i64 s13.2.2), (8, .int .i64 s16.2.2), (9, .pointer (some ⟨b29, 0, none⟩)), (10, .int .i64 s60.2)]) (fun s60 g61 => [.rd v0_0 p0.Rules, .bx b1 28 [.int .i64 p0.Symbols, .int .i64 p0.States, v0_0], .od 35 g61.1 s60.1 g61.2, .ow 97 g17_2 s16.2.1, .bx b7 55 [.pointer (some ⟨b1, 0, none⟩), .pointer none, .int .i64 1, g61.1, .int .i64 (w64 (p0.Symbols + 1)), .int .i64 0, g17_2], .rd x28_0 r26.next, .bx b29 129 [.bool r26.ok, .int .i64 r26.write, .int .i64 r26.move, x28_0], .bx b2 28 [.int .i64 0, .int .i64 0, .slice none 0 0]]) ?_ (fun s60 g61 => ?_)
                      · refine J_seq ?_
                        refine J_region ?_
                        refine JL_q (wants_none rfl) rfl (ex_move rfl) ?_
                        refine JL_q (wants_none rfl) rfl (ex_lss rfl rfl) ?_
                        refine JL_nil ?_
                        refine N_then ?_
                        refine J_if rfl (fun h62 => ?_) (fun h62 => ?_)
                        · refine J_seq ?_
                          refine J_seq ?_
                          refine J_region ?_
                          refine JL_q (wants_none rfl) rfl (ex_move rfl) ?_
                          refine JL_q (wants_none rfl) rfl (ex_nilCheck rfl) ?_
                          refine JL_q (wants_none rfl) rfl (ex_fieldAddr fi_55_3 rfl rfl) ?_
                          refine JL_q (wants_none rfl) rfl (ex_load_bx 5 ti_53 rfl rfl rfl) ?_
                          refine JL_q (wants_none rfl) rfl (ex_od 3 rfl (ex_len_ow 3 Try.underlying53 rfl rfl)) ?_
                          refine JL_q (wants_none rfl) rfl (ex_eql rfl rfl) ?_
                          refine JL_nil ?_
                          refine N_then ?_
                          refine J_if rfl (fun h63 => ?_) (fun h63 => ?_)
                          · refine J_seq ?_
                            refine J_region ?_
                            refine JL_q (wants_none rfl) rfl (ex_assign rfl) ?_
                            refine JL_nil ?_
                            refine N_then ?_
                            refine J_ret ?_
                            refine N_then_ret ?_
                            refine N_mid_ret ?_
                            refine N_then_ret ?_
                            refine N_block_ret ?_
                            refine N_then_ret ?_
                            refine N_round_ret ?_
                            refine N_block_ret ?_
                            refine N_then_ret ?_
                            refine N_round_reti ?_
                            refine N_then_ret ?_
                            refine N_inl1 hK10 rfl (rv_tmp rfl) ?_
                            refine JL_q (wants_none rfl) rfl (ex_assign rfl) ?_
                            refine JL_nil ?_
                            refine N_then ?_
                            refine J_seq ?_
                            refine J_region ?_
                            refine JL_q (wants_none rfl) rfl (ex_move rfl) ?_
                            refine JL_q (wants_none rfl) rfl (ex_move rfl) ?_
                            refine JL_q (wants_none rfl) rfl (ex_assign rfl) ?_
                            refine JL_q (wants_none rfl) rfl (ex_assign rfl) ?_
                            refine JL_nil ?_
                            refine N_then ?_
                            refine J_ret ?_
                            refine N_inl2 hK6 rfl (rv_tmp rfl) (rv_tmp rfl) ?_
                            refine JL_q (wants_none rfl) rfl (ex_move rfl) ?_
                            refine JL_q (wants_none rfl) rfl (ex_extract rfl rfl) ?_
                            refine JL_q (wants_none rfl) rfl (ex_extract rfl rfl) ?_
                            refine JL_q (wants_none rfl) rfl (ex_assign rfl) ?_
                            refine JL_q (wants_none rfl) rfl (ex_assign rfl) ?_
                            refine JL_nil ?_
                            refine N_then ?_
                            refine J_seq ?_
                            refine J_seq ?_
                            refine J_region ?_
                            refine JL_q (wants_none rfl) rfl (ex_move rfl) ?_
                            refine JL_q (wants_none rfl) rfl (ex_not rfl) ?_
                            refine JL_nil ?_
                            refine N_then ?_
                            refine J_if_true rfl (by rw [show (false) = false from rfl]; rfl) ?_
                            refine J_seq ?_
                            refine J_region ?_
                            refine JL_q (wants_none rfl) rfl (ex_build si_28 rfl .nil (fun w hh => trivial)) ?_
                            refine JL_sk (wants_none rfl) (sk_store_bx' 8 ti_28 rfl rfl (fun w hh => (cv_aggs ⟨cv_int, cv_int, cv_slice, trivial⟩)) rfl rfl rfl rfl) ?_
                            refine JL_q (wants_none rfl) rfl (ex_assign rfl) ?_
                            refine JL_nil ?_
                            refine N_then ?_
                            refine J_ret ?_
                            refine N_then_ret ?_
                            refine N_ctx (fun w hh => SH.ow_nil (α := GRule) 97 hh) ?_
                            exact N_ret2 rfl (rv_cell 9 rfl rfl ti_28 rfl) (rv_tmp rfl) (fun w hh => ⟨(.slice none 0 0 : Value), rfl, hh.sel [0] rfl⟩)
                          · refine J_skip ?_
                            refine N_then ?_
                            refine J_seq ?_
                            refine J_region ?_
                            refine JL_q (wants_none rfl) rfl (ex_move rfl) ?_
                            refine JL_q (wants_none rfl) rfl (ex_nilCheck rfl) ?_
                            refine JL_q (wants_none rfl) rfl (ex_fieldAddr fi_55_3 rfl rfl) ?_
                            refine JL_q (wants_none rfl) rfl (ex_load_bx 5 ti_53 rfl rfl rfl) ?_
                            refine JL_q (wants_none rfl) rfl (ex_od 3 rfl (ex_len_ow 3 Try.underlying53 rfl rfl)) ?_
                            refine JL_q (wants_none rfl) rfl (ex_assign rfl) ?_
                            refine JL_nil ?_
                            refine N_then ?_
                            refine J_draw [3, 5] (by kernel_rfl) ?_
                            refine JP_take (i := 0) [0, 1, 2, 4, 6, 7, 8, 9] [3, 5] rfl (by kernel_rfl) (by kernel_rfl) (by kernel_rfl) rfl rfl (wants_none rfl) rfl (ex_move rfl) ?_
                            refine JP_take (i := 1) [0, 1, 2, 4, 6, 7, 8, 9] [3, 5] rfl (by kernel_rfl) (by kernel_rfl) (by kernel_rfl) rfl rfl (wants_none rfl) rfl (ex_move rfl) ?_
                            refine JP_take (i := 2) [0, 1, 2, 4, 6, 7, 8, 9] [3, 5] rfl (by kernel_rfl) (by kernel_rfl) (by kernel_rfl) rfl rfl (wants_none rfl) rfl (ex_nilCheck rfl) ?_
                            refine JP_take (i := 3) [0, 1, 2, 4, 6, 7, 8, 9] [3, 5] rfl (by kernel_rfl) (by kernel_rfl) (by kernel_rfl) rfl rfl (wants_none rfl) rfl (ex_fieldAddr fi_55_3 rfl rfl) ?_
                            refine JP_take (i := 5) [0, 1, 2, 4, 6, 7, 8, 9] [3, 5] rfl (by kernel_rfl) (by kernel_rfl) (by kernel_rfl) rfl rfl (wants_none rfl) rfl (ex_fieldAddr fi_129_3 rfl rfl) ?_
                            refine JP_take (i := 6) [0, 1, 2, 4, 6, 7, 8, 9] [3, 5] rfl (by kernel_rfl) (by kernel_rfl) (by kernel_rfl) rfl rfl (wants_none rfl) rfl (ex_load_bx 7 ti_35 rfl rfl rfl) ?_
                            refine JP_go [0, 1, 2, 4, 6, 7, 8, 9] [3, 5] rfl rfl rfl (fun w65 h1_66 hp64 => ?_)
                            refine JD_two (i := 4) (j := 7) (by kernel_rfl) ?_ ?_
                            · refine JO_q rfl (wants_none rfl) rfl (ex_load_bx 5 ti_53 rfl rfl rfl) ?_
                              refine JD_one (i := 7) (by kernel_rfl) ?_
                              refine JO_st rfl (wants_none rfl) rfl (st_buildSlice_od (vs := [x28_0]) (B := (x28_1 ++ [])) ([r26.next] : List (List Int)) [7] Try.underlying53 ti_35 zi_35 rfl rfl rfl rfl rfl (fun w hh => (dwv_cons (hh.dw 7 rfl) dwv_nil))) (fun _ hk => nomatch hk) (fun b67 => ?_)
                              refine JD_bnd fun z68 hz69 => ?_
                              refine JD_one (i := 8) (by kernel_rfl) ?_
                              refine JO_st rfl (wants_none rfl) rfl (st_append_od 4 0 Try.underlying53 ti_35 zi_35 rfl bi_35 rfl rfl rfl rfl rfl rfl hz69) (sub_od 0 rfl) (fun v70 => ?_)
                              refine JD_take (i := 9) hp64 rfl (by kernel_rfl) (by kernel_rfl) (by kernel_rfl) (wants_none rfl) rfl (ex_nilCheck rfl) ?_
                              refine JD_take (i := 10) hp64 rfl (by kernel_rfl) (by kernel_rfl) (by kernel_rfl) (wants_none rfl) rfl (ex_fieldAddr fi_55_3 rfl rfl) ?_
                              refine JD_one (i := 11) (by kernel_rfl) ?_
                              refine JO_sk rfl (wants_none rfl) (sk_store_bx' 6 ti_53 rfl rfl (fun w hh => (hh.cv_od 4 rfl)) rfl rfl rfl rfl) (sub_bx 1 rfl) ?_
                              refine JD_done (by kernel_rfl) ?_
                              exact N_meet' (v70, (g17_1 ++ (x28_1 ++ []))) ⟨rfl, rfl, rfl, rfl, rfl, rfl, trivial⟩ [2, 3, 4, 5, 6, 7, 10, 9] rfl rfl
                            · refine JO_st rfl (wants_none rfl) rfl (st_buildSlice_od (vs := [x28_0]) (B := (x28_1 ++ [])) ([r26.next] : List (List Int)) [7] Try.underlying53 ti_35 zi_35 rfl rfl rfl rfl rfl (fun w hh => (dwv_cons (hh.dw 7 rfl) dwv_nil))) (fun _ hk => nomatch hk) (fun b71 => ?_)
                              refine JD_one (i := 4) (by kernel_rfl) ?_
                              refine JO_q rfl (wants_none rfl) rfl (ex_load_bx 6 ti_53 rfl rfl rfl) ?_
                              refine JD_bnd fun z72 hz73 => ?_
                              refine JD_one (i := 8) (by kernel_rfl) ?_
                              refine JO_st rfl (wants_none rfl) rfl (st_append_od 4 0 Try.underlying53 ti_35 zi_35 rfl bi_35 rfl rfl rfl rfl rfl rfl hz73) (sub_od 0 rfl) (fun v74 => ?_)
                              refine JD_take (i := 9) hp64 rfl (by kernel_rfl) (by kernel_rfl) (by kernel_rfl) (wants_none rfl) rfl (ex_nilCheck rfl) ?_
                              refine JD_take (i := 10) hp64 rfl (by kernel_rfl) (by kernel_rfl) (by kernel_rfl) (wants_none rfl) rfl (ex_fieldAddr fi_55_3 rfl rfl) ?_
                              refine JD_one (i := 11) (by kernel_rfl) ?_
                              refine JO_sk rfl (wants_none rfl) (sk_store_bx' 6 ti_53 rfl rfl (fun w hh => (hh.cv_od 4 rfl)) rfl rfl rfl rfl) (sub_bx 1 rfl) ?_
                              refine JD_done (by kernel_rfl) ?_
                              exact N_meet' (v74, (g17_1 ++ (x28_1 ++ []))) ⟨rfl, rfl, rfl, rfl, rfl, rfl, trivial⟩ [2, 3, 4, 5, 6, 7, 10, 9] rfl rfl
                        · refine J_skip ?_
                          exact N_meet' ((.slice (some ⟨b21, 0, none⟩) s16.1.length cap22), g17_1) ⟨rfl, rfl, rfl, rfl, rfl, rfl, trivial⟩ [1, 2, 3, 4, 5, 6, 9, 8] rfl rfl
                      · obtain ⟨g61_0, g61_1⟩ := g61
                        refine N_then ?_
                        refine J_draw [3, 4] (by kernel_rfl) ?_
                        refine JP_take (i := 0) [0, 1, 2, 5, 6, 7] [3, 4] rfl (by kernel_rfl) (by kernel_rfl) (by kernel_rfl) rfl rfl (wants_none rfl) rfl (ex_move rfl) ?_
                        refine JP_take (i := 1) [0, 1, 2, 5, 6, 7] [3, 4] rfl (by kernel_rfl) (by kernel_rfl) (by kernel_rfl) rfl rfl (wants_none rfl) rfl (ex_move rfl) ?_
                        refine JP_take (i := 2) [0, 1, 2, 5, 6, 7] [3, 4] rfl (by kernel_rfl) (by kernel_rfl) (by kernel_rfl) rfl rfl (wants_none rfl) rfl (ex_nilCheck rfl) ?_
                        refine JP_take (i := 3) [0, 1, 2, 5, 6, 7] [3, 4] rfl (by kernel_rfl) (by kernel_rfl) (by kernel_rfl) rfl rfl (wants_none rfl) rfl (ex_fieldAddr fi_55_4 rfl rfl) ?_
                        refine JP_take (i := 4) [0, 1, 2, 5, 6, 7] [3, 4] rfl (by kernel_rfl) (by kernel_rfl) (by kernel_rfl) rfl rfl (wants_none rfl) rfl (ex_fieldAddr fi_28_2 rfl rfl) ?_
                        refine JP_take (i := 6) [0, 1, 2, 5, 6, 7] [3, 4] rfl (by kernel_rfl) (by kernel_rfl) (by kernel_rfl) rfl rfl (wants_none rfl) rfl (ex_fieldAddr fi_129_1 rfl rfl) ?_
                        refine JP_take (i := 7) [0, 1, 2, 5, 6, 7] [3, 4] rfl (by kernel_rfl) (by kernel_rfl) (by kernel_rfl) rfl rfl (wants_none rfl) rfl (ex_load_bx 4 ti_2 rfl rfl rfl) ?_
                        refine JP_take (i := 8) [0, 1, 2, 5, 6, 7] [3, 4] rfl (by kernel_rfl) (by kernel_rfl) (by kernel_rfl) rfl rfl (wants_none rfl) rfl (ex_fieldAddr fi_129_2 rfl rfl) ?_
                        refine JP_take (i := 9) [0, 1, 2, 5, 6, 7] [3, 4] rfl (by kernel_rfl) (by kernel_rfl) (by kernel_rfl) rfl rfl (wants_none rfl) rfl (ex_load_bx 4 ti_2 rfl rfl rfl) ?_
                        refine JP_take (i := 10) [0, 1, 2, 5, 6, 7] [3, 4] rfl (by kernel_rfl) (by kernel_rfl) (by kernel_rfl) rfl rfl (wants_none rfl) rfl (ex_move rfl) ?_
                        refine JP_take (i := 11) [0, 1, 2, 5, 6, 7] [3, 4] rfl (by kernel_rfl) (by kernel_rfl) (by kernel_rfl) rfl rfl (wants_none rfl) rfl (ex_build si_97 rfl (.cons fi_97_0 rfl rfl (.cons fi_97_1 rfl rfl (.cons fi_97_2 rfl rfl .nil))) (fun w hh => ⟨cv_int, cv_int, cv_int, trivial⟩)) ?_
                        refine JP_go [0, 1, 2, 5, 6, 7] [3, 4] rfl rfl rfl (fun w76 h1_77 hp75 => ?_)
                        refine JD_two (i := 5) (j := 12) (by kernel_rfl) ?_ ?_
                        · refine JO_q rfl (wants_none rfl) rfl (ex_load_bx 4 ti_26 rfl rfl rfl) ?_
                          refine JD_one (i := 12) (by kernel_rfl) ?_
                          refine JO_st rfl (wants_none rfl) rfl (st_buildSlice (vs := [.agg #[.int .i64 r26.write, .int .i64 r26.move, .int .i64 s60.2]]) ([(⟨r26.write, r26.move, s60.2⟩ : GRule)] : List GRule) Try.underlying26 ti_97 zi_97 rfl rfl rfl (fun w hh => ⟨(GRule.rdmk (Rd.mk_int _ _ _) (Rd.mk_int _ _ _) (Rd.mk_int _ _ _)), trivial⟩)) (fun _ hk => nomatch hk) (fun b78 => ?_)
                          refine JD_bnd fun z79 hz80 => ?_
                          refine JD_one (i := 13) (by kernel_rfl) ?_
                          refine JO_st rfl (wants_none rfl) rfl (st_append 4 Try.underlying26 ti_97 zi_97 rfl bi_97 rfl rfl rfl rfl (fun w hh => hh.src_ow 0 rfl) hz80) (sub_ow 0 rfl) (fun v81 => ?_)
                          refine JD_take (i := 14) hp75 rfl (by kernel_rfl) (by kernel_rfl) (by kernel_rfl) (wants_none rfl) rfl (ex_nilCheck rfl) ?_
                          refine JD_take (i := 15) hp75 rfl (by kernel_rfl) (by kernel_rfl) (by kernel_rfl) (wants_none rfl) rfl (ex_fieldAddr fi_55_4 rfl rfl) ?_
                          refine JD_take (i := 16) hp75 rfl (by kernel_rfl) (by kernel_rfl) (by kernel_rfl) (wants_none rfl) rfl (ex_fieldAddr fi_28_2 rfl rfl) ?_
                          refine JD_one (i := 17) (by kernel_rfl) ?_
                          refine JO_sk rfl (wants_none rfl) (sk_store_bx' 5 ti_26 rfl rfl (fun w hh => (hh.cv_ow 4 rfl)) rfl rfl rfl rfl) (sub_bx 1 rfl) ?_
                          refine JD_done (by kernel_rfl) ?_
                          refine N_block ?_
                          refine N_then ?_
                          refine J_region ?_
                          refine JL_q (wants_none rfl) rfl (ex_move rfl) ?_
                          refine JL_q (wants_none rfl) rfl (ex_add rfl rfl) ?_
                          refine JL_q (wants_none rfl) rfl (ex_assign rfl) ?_
                          refine JL_nil ?_
                          exact N_next' (g61_0, g61_1, v81) ⟨rfl, rfl, rfl, rfl, trivial⟩ [1, 2, 3, 4, 5, 8] rfl rfl
                        · refine JO_st rfl (wants_none rfl) rfl (st_buildSlice (vs := [.agg #[.int .i64 r26.write, .int .i64 r26.move, .int .i64 s60.2]]) ([(⟨r26.write, r26.move, s60.2⟩ : GRule)] : List GRule) Try.underlying26 ti_97 zi_97 rfl rfl rfl (fun w hh => ⟨(GRule.rdmk (Rd.mk_int _ _ _) (Rd.mk_int _ _ _) (Rd.mk_int _ _ _)), trivial⟩)) (fun _ hk => nomatch hk) (fun b82 => ?_)
                          refine JD_one (i := 5) (by kernel_rfl) ?_
                          refine JO_q rfl (wants_none rfl) rfl (ex_load_bx 5 ti_26 rfl rfl rfl) ?_
                          refine JD_bnd fun z83 hz84 => ?_
                          refine JD_one (i := 13) (by kernel_rfl) ?_
                          refine JO_st rfl (wants_none rfl) rfl (st_append 4 Try.underlying26 ti_97 zi_97 rfl bi_97 rfl rfl rfl rfl (fun w hh => hh.src_ow 0 rfl) hz84) (sub_ow 0 rfl) (fun v85 => ?_)
                          refine JD_take (i := 14) hp75 rfl (by kernel_rfl) (by kernel_rfl) (by kernel_rfl) (wants_none rfl) rfl (ex_nilCheck rfl) ?_
                          refine JD_take (i := 15) hp75 rfl (by kernel_rfl) (by kernel_rfl) (by kernel_rfl) (wants_none rfl) rfl (ex_fieldAddr fi_55_4 rfl rfl) ?_
                          refine JD_take (i := 16) hp75 rfl (by kernel_rfl) (by kernel_rfl) (by kernel_rfl) (wants_none rfl) rfl (ex_fieldAddr fi_28_2 rfl rfl) ?_
                          refine JD_one (i := 17) (by kernel_rfl) ?_
                          refine JO_sk rfl (wants_none rfl) (sk_store_bx' 5 ti_26 rfl rfl (fun w hh => (hh.cv_ow 4 rfl)) rfl rfl rfl rfl) (sub_bx 1 rfl) ?_
                          refine JD_done (by kernel_rfl) ?_
                          refine N_block ?_
                          refine N_then ?_
                          refine J_region ?_
                          refine JL_q (wants_none rfl) rfl (ex_move rfl) ?_
                          refine JL_q (wants_none rfl) rfl (ex_add rfl rfl) ?_
                          refine JL_q (wants_none rfl) rfl (ex_assign rfl) ?_
                          refine JL_nil ?_
                          exact N_next' (g61_0, g61_1, v85) ⟨rfl, rfl, rfl, rfl, trivial⟩ [1, 2, 3, 4, 5, 8] rfl rfl
                    · refine J_skip ?_
                      refine N_block ?_
                      refine N_then ?_
                      refine J_region ?_
                      refine JL_q (wants_none rfl) rfl (ex_move rfl) ?_
                      refine JL_q (wants_none rfl) rfl (ex_add rfl rfl) ?_
                      refine JL_q (wants_none rfl) rfl (ex_assign rfl) ?_
                      refine JL_nil ?_
                      exact N_next' () ⟨rfl, rfl, rfl, trivial⟩ [1, 2, 3, 4, 5, 6, 7, 8, 9] rfl rfl
                  · refine J_exit ?_
                    refine N_then_exit ?_
                    exact N_break' () ⟨rfl, rfl, rfl, trivial⟩ [0, 1, 2, 3, 4, 5, 6, 7, 8] rfl rfl
                · refine N_then ?_
                  refine J_seq ?_
                  refine J_region ?_
                  refine JL_q (wants_none rfl) rfl (ex_assign rfl) ?_
                  refine JL_nil ?_
                  refine N_then ?_
                  refine J_ret ?_
                  refine N_inl1 hK50 rfl (rv_tmp rfl) ?_
                  refine JL_q (wants_none rfl) rfl (ex_assign rfl) ?_
                  refine JL_nil ?_
                  refine N_then ?_
                  refine J_seq ?_
                  refine J_cut' (S' := (List (List Int)) × Int) (G' := Value × List Nat) (fun s86 g87 => [(0, .pointer (some ⟨b7, 0, none⟩)), (1, .int .i64 (w64 (p0.Symbols + 1))), (7, .int .i64 s13.2.2), (8, .int .i64 s16.2.2), (9, .pointer (some ⟨b29, 0, none⟩)), (10, .int .i64 s86.2)]) (fun s86 g87 => [.rd v0_0 p0.Rules, .bx b1 28 [.int .i64 p0.Symbols, .int .i64 p0.States, v0_0], .od 35 g87.1 s86.1 g87.2, .ow 97 g17_2 s16.2.1, .bx b7 55 [.pointer (some ⟨b1, 0, none⟩), .pointer none, .int .i64 1, g87.1, .int .i64 (w64 (p0.Symbols + 1)), .int .i64 0, g17_2], .rd x28_0 r26.next, .bx b29 129 [.bool r26.ok, .int .i64 r26.write, .int .i64 r26.move, x28_0], .bx b2 28 [.int .i64 0, .int .i64 0, .slice none 0 0]]) ?_ (fun s86 g87 => ?_)
                  · refine J_seq ?_
                    refine J_region ?_
                    refine JL_q (wants_none rfl) rfl (ex_move rfl) ?_
                    refine JL_q (wants_none rfl) rfl (ex_lss rfl rfl) ?_
                    refine JL_nil ?_
                    refine N_then ?_
                    refine J_if_true rfl (by decide) ?_
                    refine J_seq ?_
                    refine J_seq ?_
                    refine J_region ?_
                    refine JL_q (wants_none rfl) rfl (ex_move rfl) ?_
                    refine JL_q (wants_none rfl) rfl (ex_nilCheck rfl) ?_
                    refine JL_q (wants_none rfl) rfl (ex_fieldAddr fi_55_3 rfl rfl) ?_
                    refine JL_q (wants_none rfl) rfl (ex_load_bx 4 ti_53 rfl rfl rfl) ?_
                    refine JL_q (wants_none rfl) rfl (ex_od 2 rfl (ex_len_ow 2 Try.underlying53 rfl rfl)) ?_
                    refine JL_q (wants_none rfl) rfl (ex_eql rfl rfl) ?_
                    refine JL_nil ?_
                    refine N_then ?_
                    refine J_if rfl (fun h88 => ?_) (fun h88 => ?_)
                    · refine J_seq ?_
                      refine J_region ?_
                      refine JL_q (wants_none rfl) rfl (ex_assign rfl) ?_
                      refine JL_nil ?_
                      refine N_then ?_
                      refine J_ret ?_
                      refine N_then_ret ?_
                      refine N_mid_ret ?_
                      refine N_then_ret ?_
                      refine N_block_ret ?_
                      refine N_then_ret ?_
                      refine N_round_ret ?_
                      refine N_block_ret ?_
                      refine N_then_ret ?_
                      refine N_round_reti ?_
                      refine N_then_ret ?_
                      refine N_inl1 hK10 rfl (rv_tmp rfl) ?_
                      refine JL_q (wants_none rfl) rfl (ex_assign rfl) ?_
                      refine JL_nil ?_
                      refine N_then ?_
                      refine J_seq ?_
                      refine J_region ?_
                      refine JL_q (wants_none rfl) rfl (ex_move rfl) ?_
                      refine JL_q (wants_none rfl) rfl (ex_move rfl) ?_
                      refine JL_q (wants_none rfl) rfl (ex_assign rfl) ?_
                      refine JL_q (wants_none rfl) rfl (ex_assign rfl) ?_
                      refine JL_nil ?_
                      refine N_then ?_
                      refine J_ret ?_
                      refine N_inl2 hK6 rfl (rv_tmp rfl) (rv_tmp rfl) ?_
                      refine JL_q (wants_none rfl) rfl (ex_move rfl) ?_
                      refine JL_q (wants_none rfl) rfl (ex_extract rfl rfl) ?_
                      refine JL_q (wants_none rfl) rfl (ex_extract rfl rfl) ?_
                      refine JL_q (wants_none rfl) rfl (ex_assign rfl) ?_
                      refine JL_q (wants_none rfl) rfl (ex_assign rfl) ?_
                      refine JL_nil ?_
                      refine N_then ?_
                      refine J_seq ?_
                      refine J_seq ?_
                      refine J_region ?_
                      refine JL_q (wants_none rfl) rfl (ex_move rfl) ?_
                      refine JL_q (wants_none rfl) rfl (ex_not rfl) ?_
                      refine JL_nil ?_
                      refine N_then ?_
                      refine J_if_true rfl (by rw [show (false) = false from rfl]; rfl) ?_
                      refine J_seq ?_
                      refine J_region ?_
                      refine JL_q (wants_none rfl) rfl (ex_build si_28 rfl .nil (fun w hh => trivial)) ?_
                      refine JL_sk (wants_none rfl) (sk_store_bx' 7 ti_28 rfl rfl (fun w hh => (cv_aggs ⟨cv_int, cv_int, cv_slice, trivial⟩)) rfl rfl rfl rfl) ?_
                      refine JL_q (wants_none rfl) rfl (ex_assign rfl) ?_
                      refine JL_nil ?_
                      refine N_then ?_
                      refine J_ret ?_
                      refine N_then_ret ?_
                      refine N_ctx (fun w hh => SH.ow_nil (α := GRule) 97 hh) ?_
                      exact N_ret2 rfl (rv_cell 8 rfl rfl ti_28 rfl) (rv_tmp rfl) (fun w hh => ⟨(.slice none 0 0 : Value), rfl, hh.sel [0] rfl⟩)
                    · refine J_skip ?_
                      refine N_then ?_
                      refine J_seq ?_
                      refine J_region ?_
                      refine JL_q (wants_none rfl) rfl (ex_move rfl) ?_
                      refine JL_q (wants_none rfl) rfl (ex_nilCheck rfl) ?_
                      refine JL_q (wants_none rfl) rfl (ex_fieldAddr fi_55_3 rfl rfl) ?_
                      refine JL_q (wants_none rfl) rfl (ex_load_bx 4 ti_53 rfl rfl rfl) ?_
                      refine JL_q (wants_none rfl) rfl (ex_od 2 rfl (ex_len_ow 2 Try.underlying53 rfl rfl)) ?_
                      refine JL_q (wants_none rfl) rfl (ex_assign rfl) ?_
                      refine JL_nil ?_
                      refine N_then ?_
                      refine J_draw [2, 4] (by kernel_rfl) ?_
                      refine JP_take (i := 0) [0, 1, 3, 5, 6, 7, 8] [2, 4] rfl (by kernel_rfl) (by kernel_rfl) (by kernel_rfl) rfl rfl (wants_none rfl) rfl (ex_move rfl) ?_
                      refine JP_take (i := 1) [0, 1, 3, 5, 6, 7, 8] [2, 4] rfl (by kernel_rfl) (by kernel_rfl) (by kernel_rfl) rfl rfl (wants_none rfl) rfl (ex_move rfl) ?_
                      refine JP_take (i := 2) [0, 1, 3, 5, 6, 7, 8] [2, 4] rfl (by kernel_rfl) (by kernel_rfl) (by kernel_rfl) rfl rfl (wants_none rfl) rfl (ex_nilCheck rfl) ?_
                      refine JP_take (i := 3) [0, 1, 3, 5, 6, 7, 8] [2, 4] rfl (by kernel_rfl) (by kernel_rfl) (by kernel_rfl) rfl rfl (wants_none rfl) rfl (ex_fieldAddr fi_55_3 rfl rfl) ?_
                      refine JP_take (i := 5) [0, 1, 3, 5, 6, 7, 8] [2, 4] rfl (by kernel_rfl) (by kernel_rfl) (by kernel_rfl) rfl rfl (wants_none rfl) rfl (ex_fieldAddr fi_129_3 rfl rfl) ?_
                      refine JP_take (i := 6) [0, 1, 3, 5, 6, 7, 8] [2, 4] rfl (by kernel_rfl) (by kernel_rfl) (by kernel_rfl) rfl rfl (wants_none rfl) rfl (ex_load_bx 6 ti_35 rfl rfl rfl) ?_
                      refine JP_go [0, 1, 3, 5, 6, 7, 8] [2, 4] rfl rfl rfl (fun w90 h1_91 hp89 => ?_)
                      refine JD_two (i := 4) (j := 7) (by kernel_rfl) ?_ ?_
                      · refine JO_q rfl (wants_none rfl) rfl (ex_load_bx 4 ti_53 rfl rfl rfl) ?_
                        refine JD_one (i := 7) (by kernel_rfl) ?_
                        refine JO_st rfl (wants_none rfl) rfl (st_buildSlice_od (vs := [x28_0]) (B := (x28_1 ++ [])) ([r26.next] : List (List Int)) [6] Try.underlying53 ti_35 zi_35 rfl rfl rfl rfl rfl (fun w hh => (dwv_cons (hh.dw 6 rfl) dwv_nil))) (fun _ hk => nomatch hk) (fun b92 => ?_)
                        refine JD_bnd fun z93 hz94 => ?_
                        refine JD_one (i := 8) (by kernel_rfl) ?_
                        refine JO_st rfl (wants_none rfl) rfl (st_append_od 3 0 Try.underlying53 ti_35 zi_35 rfl bi_35 rfl rfl rfl rfl rfl rfl hz94) (sub_od 0 rfl) (fun v95 => ?_)
                        refine JD_take (i := 9) hp89 rfl (by kernel_rfl) (by kernel_rfl) (by kernel_rfl) (wants_none rfl) rfl (ex_nilCheck rfl) ?_
                        refine JD_take (i := 10) hp89 rfl (by kernel_rfl) (by kernel_rfl) (by kernel_rfl) (wants_none rfl) rfl (ex_fieldAddr fi_55_3 rfl rfl) ?_
                        refine JD_one (i := 11) (by kernel_rfl) ?_
                        refine JO_sk rfl (wants_none rfl) (sk_store_bx' 5 ti_53 rfl rfl (fun w hh => (hh.cv_od 3 rfl)) rfl rfl rfl rfl) (sub_bx 1 rfl) ?_
                        refine JD_done (by kernel_rfl) ?_
                        exact N_meet' (v95, (g17_1 ++ (x28_1 ++ []))) ⟨rfl, rfl, rfl, rfl, rfl, rfl, trivial⟩ [1, 2, 3, 4, 5, 6, 9, 8] rfl rfl
                      · refine JO_st rfl (wants_none rfl) rfl (st_buildSlice_od (vs := [x28_0]) (B := (x28_1 ++ [])) ([r26.next] : List (List Int)) [6] Try.underlying53 ti_35 zi_35 rfl rfl rfl rfl rfl (fun w hh => (dwv_cons (hh.dw 6 rfl) dwv_nil))) (fun _ hk => nomatch hk) (fun b96 => ?_)
                        refine JD_one (i := 4) (by kernel_rfl) ?_
                        refine JO_q rfl (wants_none rfl) rfl (ex_load_bx 5 ti_53 rfl rfl rfl) ?_
                        refine JD_bnd fun z97 hz98 => ?_
                        refine JD_one (i := 8) (by kernel_rfl) ?_
                        refine JO_st rfl (wants_none rfl) rfl (st_append_od 3 0 Try.underlying53 ti_35 zi_35 rfl bi_35 rfl rfl rfl rfl rfl rfl hz98) (sub_od 0 rfl) (fun v99 => ?_)
                        refine JD_take (i := 9) hp89 rfl (by kernel_rfl) (by kernel_rfl) (by kernel_rfl) (wants_none rfl) rfl (ex_nilCheck rfl) ?_
                        refine JD_take (i := 10) hp89 rfl (by kernel_rfl) (by kernel_rfl) (by kernel_rfl) (wants_none rfl) rfl (ex_fieldAddr fi_55_3 rfl rfl) ?_
                        refine JD_one (i := 11) (by kernel_rfl) ?_
                        refine JO_sk rfl (wants_none rfl) (sk_store_bx' 5 ti_53 rfl rfl (fun w hh => (hh.cv_od 3 rfl)) rfl rfl rfl rfl) (sub_bx 1 rfl) ?_
                        refine JD_done (by kernel_rfl) ?_
                        exact N_meet' (v99, (g17_1 ++ (x28_1 ++ []))) ⟨rfl, rfl, rfl, rfl, rfl, rfl, trivial⟩ [1, 2, 3, 4, 5, 6, 9, 8] rfl rfl
                  · obtain ⟨g87_0, g87_1⟩ := g87
                    refine N_then ?_
                    refine J_draw [3, 4] (by kernel_rfl) ?_
                    refine JP_take (i := 0) [0, 1, 2, 5, 6, 7] [3, 4] rfl (by kernel_rfl) (by kernel_rfl) (by kernel_rfl) rfl rfl (wants_none rfl) rfl (ex_move rfl) ?_
                    refine JP_take (i := 1) [0, 1, 2, 5, 6, 7] [3, 4] rfl (by kernel_rfl) (by kernel_rfl) (by kernel_rfl) rfl rfl (wants_none rfl) rfl (ex_move rfl) ?_
                    refine JP_take (i := 2) [0, 1, 2, 5, 6, 7] [3, 4] rfl (by kernel_rfl) (by kernel_rfl) (by kernel_rfl) rfl rfl (wants_none rfl) rfl (ex_nilCheck rfl) ?_
                    refine JP_take (i := 3) [0, 1, 2, 5, 6, 7] [3, 4] rfl (by kernel_rfl) (by kernel_rfl) (by kernel_rfl) rfl rfl (wants_none rfl) rfl (ex_fieldAddr fi_55_4 rfl rfl) ?_
                    refine JP_take (i := 4) [0, 1, 2, 5, 6, 7] [3, 4] rfl (by kernel_rfl) (by kernel_rfl) (by kernel_rfl) rfl rfl (wants_none rfl) rfl (ex_fieldAddr fi_28_2 rfl rfl) ?_
                    refine JP_take (i := 6) [0, 1, 2, 5, 6, 7] [3, 4] rfl (by kernel_rfl) (by kernel_rfl) (by kernel_rfl) rfl rfl (wants_none rfl) rfl (ex_fieldAddr fi_129_1 rfl rfl) ?_
                    refine JP_take (i := 7) [0, 1, 2, 5, 6, 7] [3, 4] rfl (by kernel_rfl) (by kernel_rfl) (by kernel_rfl) rfl rfl (wants_none rfl) rfl (ex_load_bx 4 ti_2 rfl rfl rfl) ?_
                    refine JP_take (i := 8) [0, 1, 2, 5, 6, 7] [3, 4] rfl (by kernel_rfl) (by kernel_rfl) (by kernel_rfl) rfl rfl (wants_none rfl) rfl (ex_fieldAddr fi_129_2 rfl rfl) ?_
                    refine JP_take (i := 9) [0, 1, 2, 5, 6, 7] [3, 4] rfl (by kernel_rfl) (by kernel_rfl) (by kernel_rfl) rfl rfl (wants_none rfl) rfl (ex_load_bx 4 ti_2 rfl rfl rfl) ?_
                    refine JP_take (i := 10) [0, 1, 2, 5, 6, 7] [3, 4] rfl (by kernel_rfl) (by kernel_rfl) (by kernel_rfl) rfl rfl (wants_none rfl) rfl (ex_move rfl) ?_
                    refine JP_take (i := 11) [0, 1, 2, 5, 6, 7] [3, 4] rfl (by kernel_rfl) (by kernel_rfl) (by kernel_rfl) rfl rfl (wants_none rfl) rfl (ex_build si_97 rfl (.cons fi_97_0 rfl rfl (.cons fi_97_1 rfl rfl (.cons fi_97_2 rfl rfl .nil))) (fun w hh => ⟨cv_int, cv_int, cv_int, trivial⟩)) ?_
                    refine JP_go [0, 1, 2, 5, 6, 7] [3, 4] rfl rfl rfl (fun w101 h1_102 hp100 => ?_)
                    refine JD_two (i := 5) (j := 12) (by kernel_rfl) ?_ ?_
                    · refine JO_q rfl (wants_none rfl) rfl (ex_load_bx 4 ti_26 rfl rfl rfl) ?_
                      refine JD_one (i := 12) (by kernel_rfl) ?_
                      refine JO_st rfl (wants_none rfl) rfl (st_buildSlice (vs := [.agg #[.int .i64 r26.write, .int .i64 r26.move, .int .i64 s86.2]]) ([(⟨r26.write, r26.move, s86.2⟩ : GRule)] : List GRule) Try.underlying26 ti_97 zi_97 rfl rfl rfl (fun w hh => ⟨(GRule.rdmk (Rd.mk_int _ _ _) (Rd.mk_int _ _ _) (Rd.mk_int _ _ _)), trivial⟩)) (fun _ hk => nomatch hk) (fun b103 => ?_)
                      refine JD_bnd fun z104 hz105 => ?_
                      refine JD_one (i := 13) (by kernel_rfl) ?_
                      refine JO_st rfl (wants_none rfl) rfl (st_append 4 Try.underlying26 ti_97 zi_97 rfl bi_97 rfl rfl rfl rfl (fun w hh => hh.src_ow 0 rfl) hz105) (sub_ow 0 rfl) (fun v106 => ?_)
                      refine JD_take (i := 14) hp100 rfl (by kernel_rfl) (by kernel_rfl) (by kernel_rfl) (wants_none rfl) rfl (ex_nilCheck rfl) ?_
                      refine JD_take (i := 15) hp100 rfl (by kernel_rfl) (by kernel_rfl) (by kernel_rfl) (wants_none rfl) rfl (ex_fieldAddr fi_55_4 rfl rfl) ?_
                      refine JD_take (i := 16) hp100 rfl (by kernel_rfl) (by kernel_rfl) (by kernel_rfl) (wants_none rfl) rfl (ex_fieldAddr fi_28_2 rfl rfl) ?_
                      refine JD_one (i := 17) (by kernel_rfl) ?_
                      refine JO_sk rfl (wants_none rfl) (sk_store_bx' 5 ti_26 rfl rfl (fun w hh => (hh.cv_ow 4 rfl)) rfl rfl rfl rfl) (sub_bx 1 rfl) ?_
                      refine JD_done (by kernel_rfl) ?_
                      refine N_block ?_
                      refine N_then ?_
                      refine J_region ?_
                      refine JL_q (wants_none rfl) rfl (ex_move rfl) ?_
                      refine JL_q (wants_none rfl) rfl (ex_add rfl rfl) ?_
                      refine JL_q (wants_none rfl) rfl (ex_assign rfl) ?_
                      refine JL_nil ?_
                      exact N_next' (g87_0, g87_1, v106) ⟨rfl, rfl, rfl, rfl, trivial⟩ [1, 2, 3, 4, 5, 8] rfl rfl
                    · refine JO_st rfl (wants_none rfl) rfl (st_buildSlice (vs := [.agg #[.int .i64 r26.write, .int .i64 r26.move, .int .i64 s86.2]]) ([(⟨r26.write, r26.move, s86.2⟩ : GRule)] : List GRule) Try.underlying26 ti_97 zi_97 rfl rfl rfl (fun w hh => ⟨(GRule.rdmk (Rd.mk_int _ _ _) (Rd.mk_int _ _ _) (Rd.mk_int _ _ _)), trivial⟩)) (fun _ hk => nomatch hk) (fun b107 => ?_)
                      refine JD_one (i := 5) (by kernel_rfl) ?_
                      refine JO_q rfl (wants_none rfl) rfl (ex_load_bx 5 ti_26 rfl rfl rfl) ?_
                      refine JD_bnd fun z108 hz109 => ?_
                      refine JD_one (i := 13) (by kernel_rfl) ?_
                      refine JO_st rfl (wants_none rfl) rfl (st_append 4 Try.underlying26 ti_97 zi_97 rfl bi_97 rfl rfl rfl rfl (fun w hh => hh.src_ow 0 rfl) hz109) (sub_ow 0 rfl) (fun v110 => ?_)
                      refine JD_take (i := 14) hp100 rfl (by kernel_rfl) (by kernel_rfl) (by kernel_rfl) (wants_none rfl) rfl (ex_nilCheck rfl) ?_
                      refine JD_take (i := 15) hp100 rfl (by kernel_rfl) (by kernel_rfl) (by kernel_rfl) (wants_none rfl) rfl (ex_fieldAddr fi_55_4 rfl rfl) ?_
                      refine JD_take (i := 16) hp100 rfl (by kernel_rfl) (by kernel_rfl) (by kernel_rfl) (wants_none rfl) rfl (ex_fieldAddr fi_28_2 rfl rfl) ?_
                      refine JD_one (i := 17) (by kernel_rfl) ?_
                      refine JO_sk rfl (wants_none rfl) (sk_store_bx' 5 ti_26 rfl rfl (fun w hh => (hh.cv_ow 4 rfl)) rfl rfl rfl rfl) (sub_bx 1 rfl) ?_
                      refine JD_done (by kernel_rfl) ?_
                      refine N_block ?_
                      refine N_then ?_
                      refine J_region ?_
                      refine JL_q (wants_none rfl) rfl (ex_move rfl) ?_
                      refine JL_q (wants_none rfl) rfl (ex_add rfl rfl) ?_
                      refine JL_q (wants_none rfl) rfl (ex_assign rfl) ?_
                      refine JL_nil ?_
                      exact N_next' (g87_0, g87_1, v110) ⟨rfl, rfl, rfl, rfl, trivial⟩ [1, 2, 3, 4, 5, 8] rfl rfl
            · refine J_exit ?_
              refine N_then_exit ?_
              exact N_break' (g17_0, g17_1, g17_2) ⟨rfl, rfl, rfl, rfl, trivial⟩ [0, 1, 2, 3, 4, 5] rfl rfl
          · obtain ⟨g17_0, g17_1, g17_2⟩ := g17
            refine N_block ?_
            refine N_then ?_
            refine J_region ?_
            refine JL_q (wants_none rfl) rfl (ex_move rfl) ?_
            refine JL_q (wants_none rfl) rfl (ex_add rfl rfl) ?_
            refine JL_q (wants_none rfl) rfl (ex_assign rfl) ?_
            refine JL_nil ?_
            exact N_next' (g17_0, g17_1, g17_2) ⟨rfl, rfl, rfl, trivial⟩ [0, 1, 2, 3, 4, 5] rfl rfl
        · refine J_exit ?_
          refine N_then_exit ?_
          exact N_break' (g14_0, g14_1, g14_2) ⟨rfl, rfl, rfl, trivial⟩ [0, 1, 2, 3, 4, 5] rfl rfl
      · obtain ⟨g14_0, g14_1, g14_2⟩ := g14
        refine N_then ?_
        refine J_seq ?_
        refine J_region ?_
        refine JL_q (wants_none rfl) rfl (ex_move rfl) ?_
        refine JL_q (wants_none rfl) rfl (ex_move rfl) ?_
        refine JL_q (wants_none rfl) rfl (ex_nilCheck rfl) ?_
        refine JL_q (wants_none rfl) rfl (ex_fieldAddr fi_55_3 rfl rfl) ?_
        refine JL_q (wants_none rfl) rfl (ex_load_bx 4 ti_53 rfl rfl rfl) ?_
        refine JL_q (wants_none rfl) rfl (ex_od 2 rfl (ex_len_ow 2 Try.underlying53 rfl rfl)) ?_
        refine JL_q (wants_none rfl) rfl (ex_nilCheck rfl) ?_
        refine JL_q (wants_none rfl) rfl (ex_fieldAddr fi_55_4 rfl rfl) ?_
        refine JL_q (wants_none rfl) rfl (ex_fieldAddr fi_28_1 rfl rfl) ?_
        refine JL_sk (wants_none rfl) (sk_store_bx' 4 ti_2 rfl rfl (fun w hh => cv_int) rfl rfl rfl rfl) ?_
        refine JL_nil ?_
        refine N_then ?_
        refine J_seq ?_
        refine J_region ?_
        refine JL_q (wants_none rfl) rfl (ex_assign rfl) ?_
        refine JL_nil ?_
        refine N_then ?_
        refine J_ret ?_
        refine N_inl1 hK10 rfl (rv_tmp rfl) ?_
        refine JL_q (wants_none rfl) rfl (ex_assign rfl) ?_
        refine JL_nil ?_
        refine N_then ?_
        refine J_seq ?_
        refine J_region ?_
        refine JL_q (wants_none rfl) rfl (ex_move rfl) ?_
        refine JL_q (wants_none rfl) rfl (ex_move rfl) ?_
        refine JL_q (wants_none rfl) rfl (ex_assign rfl) ?_
        refine JL_q (wants_none rfl) rfl (ex_assign rfl) ?_
        refine JL_nil ?_
        refine N_then ?_
        refine J_ret ?_
        refine N_inl2 hK6 rfl (rv_tmp rfl) (rv_tmp rfl) ?_
        refine JL_q (wants_none rfl) rfl (ex_move rfl) ?_
        refine JL_q (wants_none rfl) rfl (ex_extract rfl rfl) ?_
        refine JL_q (wants_none rfl) rfl (ex_extract rfl rfl) ?_
        refine JL_q (wants_none rfl) rfl (ex_assign rfl) ?_
        refine JL_q (wants_none rfl) rfl (ex_assign rfl) ?_
        refine JL_nil ?_
        refine N_then ?_
        refine J_seq ?_
        refine J_seq ?_
        refine J_region ?_
        refine JL_q (wants_none rfl) rfl (ex_move rfl) ?_
        refine JL_q (wants_none rfl) rfl (ex_not rfl) ?_
        refine JL_nil ?_
        refine N_then ?_
        refine J_if_false rfl (by rw [show (true) = true from rfl]; rfl) ?_
        refine J_skip ?_
        refine N_then ?_
        refine J_seq ?_
        refine J_region ?_
        refine JL_q (wants_none rfl) rfl (ex_move rfl) ?_
        refine JL_q (wants_none rfl) rfl (ex_nilCheck rfl) ?_
        refine JL_q (wants_none rfl) rfl (ex_fieldAddr fi_55_4 rfl rfl) ?_
        refine JL_q (wants_none rfl) rfl (ex_load_bx_agg 4 ti_28 rfl rfl rfl rfl) ?_
        refine JL_sk (wants_none rfl) (sk_store_bx' 5 ti_28 rfl rfl (fun w hh => (cv_aggs ⟨cv_int, cv_int, (hh.cv_ow 3 rfl), trivial⟩)) rfl rfl rfl rfl) ?_
        refine JL_q (wants_none rfl) rfl (ex_assign rfl) ?_
        refine JL_nil ?_
        refine N_then ?_
        refine J_ret ?_
        exact N_ret2 rfl (rv_cell 5 rfl rfl ti_28 rfl) (rv_tmp rfl) (fun w hh => ⟨g14_2, rfl, hh.sel [3] rfl⟩)

set_option maxHeartbeats 40000000 in
theorem c_impl_FoldMachine (A : Nat → Prop) (w : World) (hA : ∀ k, A k → k < w.heap.size) (v0_ : Value) (p0 : GMachine) (hp0 : Rd A w v0_ p0) (r : GMachine × Int) (hr : F_impl_FoldMachine p0 = some r) :
    Con Try.prog 16 [v0_] A w (fun x_ : Value => .tuple #[.agg #[.int .i64 r.1.Symbols, .int .i64 r.1.States, x_], .int .i64 r.2]) (fun x_ => [.ow 97 x_ r.1.Rules]) := by
  obtain ⟨v0_0, rfl, hp0_0⟩ := GMachine.open hp0
  refine Con_of (v := fun (r : GMachine × Int) (x_ : Value) => .tuple #[.agg #[.int .i64 r.1.Symbols, .int .i64 r.1.States, x_], .int .i64 r.2]) (fs := fun r x_ => [.ow 97 x_ r.1.Rules]) Try.func16 rfl Try.ntmps16 rfl ((SH.start hA).start_rd rfl hp0_0) rfl ?_ hr
  unfold F_impl_FoldMachine
  refine J_seq ?_
  refine J_region ?_
  refine JL_st (wants_none rfl) rfl (st_box' rfl (fun w hh => (cv_aggs ⟨cv_int, cv_int, (hh.cv 0 rfl), trivial⟩))) (fun b1 => ?_)
  refine JL_st (wants_none rfl) rfl (st_alloc zi_28 rfl) (fun b2 => ?_)
  refine JL_q (wants_none rfl) rfl (ex_assign rfl) ?_
  refine JL_nil ?_
  refine N_then ?_
  refine J_seq ?_
  refine J_seq ?_
  refine J_region ?_
  refine JL_q (wants_none rfl) rfl (ex_load_bx_agg 1 ti_28 rfl rfl rfl rfl) ?_
  refine JL_bnd fun r3 hr4 => ?_
  refine JL_call (wants_none rfl) rfl Try.call32 rfl (Ca_of0 fun w hh => c_impl_ValidMachine _ w (fun _ hk => hk.elim) _ _ (GMachine.rdmk (Rd.mk_int _ _ _) (Rd.mk_int _ _ _) (hh.rd0 2 rfl)) _ hr4) (fun _ => ?_)
  refine JL_q (wants_none rfl) rfl (ex_not rfl) ?_
  refine JL_nil ?_
  refine N_then ?_
  refine J_if rfl (fun h5 => ?_) (fun h5 => ?_)
  · refine J_seq ?_
    refine J_region ?_
    refine JL_q (wants_none rfl) rfl (ex_build si_28 rfl .nil (fun w hh => trivial)) ?_
    refine JL_sk (wants_none rfl) (sk_store_bx' 0 ti_28 rfl rfl (fun w hh => (cv_aggs ⟨cv_int, cv_int, cv_slice, trivial⟩)) rfl rfl rfl rfl) ?_
    refine JL_q (wants_none rfl) rfl (ex_assign rfl) ?_
    refine JL_nil ?_
    refine N_then ?_
    refine J_ret ?_
    refine N_then_ret ?_
    refine N_ctx (fun w hh => SH.ow_nil (α := GRule) 97 hh) ?_
    exact N_ret2 rfl (rv_cell 1 rfl rfl ti_28 rfl) (rv_tmp rfl) (fun w hh => ⟨(.slice none 0 0 : Value), rfl, hh.sel [0] rfl⟩)
  · refine J_skip ?_
    refine N_then ?_
    refine J_seq ?_
    refine J_region ?_
    refine JL_q (wants_none rfl) rfl (ex_load_bx_agg 1 ti_28 rfl rfl rfl rfl) ?_
    refine JL_inline (wants_none rfl) rfl Try.call40 rfl Try.func40 rfl Try.ntmps40 rfl rfl (fun K_ hK6 => ?_)
    refine J_seq ?_
    refine J_region ?_
    refine JL_st (wants_none rfl) rfl (st_box' rfl (fun w hh => (cv_aggs ⟨cv_int, cv_int, (hh.cv 2 rfl), trivial⟩))) (fun b7 => ?_)
    refine JL_q (wants_none rfl) rfl (ex_assign rfl) ?_
    refine JL_q (wants_none rfl) rfl (ex_assign rfl) ?_
    refine JL_nil ?_
    refine N_then ?_
    refine J_seq ?_
    refine J_seq ?_
    refine J_region ?_
    refine JL_q (wants_none rfl) rfl (ex_fieldAddr fi_28_0 rfl rfl) ?_
    refine JL_q (wants_none rfl) rfl (ex_load_bx 0 ti_2 rfl rfl rfl) ?_
    refine JL_q (wants_none rfl) rfl (ex_eql rfl rfl) ?_
    refine JL_nil ?_
    refine N_then ?_
    refine J_if rfl (fun h8 => ?_) (fun h8 => ?_)
    · refine J_seq ?_
      refine J_region ?_
      refine JL_q (wants_none rfl) rfl (ex_assign rfl) ?_
      refine JL_q (wants_none rfl) rfl (ex_assign rfl) ?_
      refine JL_nil ?_
      refine N_then ?_
      refine J_ret ?_
      refine N_then_ret ?_
      refine N_inl2 hK6 rfl (rv_tmp rfl) (rv_tmp rfl) ?_
      refine JL_q (wants_none rfl) rfl (ex_extract rfl rfl) ?_
      refine JL_q (wants_none rfl) rfl (ex_extract rfl rfl) ?_
      refine JL_inline (wants_none rfl) rfl Try.call39 rfl Try.func39 rfl Try.ntmps39 rfl rfl (fun K_ hK9 => ?_)
      refine J_seq ?_
      refine J_region ?_
      refine JL_st (wants_none rfl) rfl (st_alloc zi_28 rfl) (fun b10 => ?_)
      refine JL_q (wants_none rfl) rfl (ex_assign rfl) ?_
      refine JL_nil ?_
      refine N_then ?_
      refine J_seq ?_
      refine J_seq ?_
      refine J_region ?_
      refine JL_q (wants_none rfl) rfl (ex_move rfl) ?_
      refine JL_q (wants_none rfl) rfl (ex_not rfl) ?_
      refine JL_nil ?_
      refine N_then ?_
      refine J_if_true rfl (by rw [show (false) = false from rfl]; rfl) ?_
      refine J_seq ?_
      refine J_region ?_
      refine JL_q (wants_none rfl) rfl (ex_build si_28 rfl .nil (fun w hh => trivial)) ?_
      refine JL_sk (wants_none rfl) (sk_store_bx' 0 ti_28 rfl rfl (fun w hh => (cv_aggs ⟨cv_int, cv_int, cv_slice, trivial⟩)) rfl rfl rfl rfl) ?_
      refine JL_q (wants_none rfl) rfl (ex_assign rfl) ?_
      refine JL_nil ?_
      refine N_then ?_
      refine J_ret ?_
      refine N_then_ret ?_
      refine N_inl2 hK9 rfl (rv_cell 0 rfl rfl ti_28 rfl) (rv_tmp rfl) ?_
      refine JL_q (wants_none rfl) rfl (ex_extract rfl rfl) ?_
      refine JL_q (wants_none rfl) rfl (ex_extract rfl rfl) ?_
      refine JL_sk (wants_none rfl) (sk_store_bx' 2 ti_28 rfl rfl (fun w hh => (cv_aggs ⟨cv_int, cv_int, cv_slice, trivial⟩)) rfl rfl rfl rfl) ?_
      refine JL_q (wants_none rfl) rfl (ex_assign rfl) ?_
      refine JL_nil ?_
      refine N_then ?_
      refine J_ret ?_
      refine N_ctx (fun w hh => SH.ow_nil (α := GRule) 97 hh) ?_
      exact N_ret2 rfl (rv_cell 3 rfl rfl ti_28 rfl) (rv_tmp rfl) (fun w hh => ⟨(.slice none 0 0 : Value), rfl, hh.sel [0] rfl⟩)
    · refine J_skip ?_
      refine N_then ?_
      refine J_seq ?_
      refine J_region ?_
      refine JL_q (wants_none rfl) rfl (ex_fieldAddr fi_28_0 rfl rfl) ?_
      refine JL_q (wants_none rfl) rfl (ex_load_bx 0 ti_2 rfl rfl rfl) ?_
      refine JL_q (wants_none rfl) rfl (ex_add rfl rfl) ?_
      refine JL_q (wants_none rfl) rfl (ex_build si_68 rfl .nil (fun w hh => trivial)) ?_
      refine JL_q (wants_none rfl) rfl (ex_makeFunc rfl) ?_
      refine JL_inline (wants_none rfl) rfl Try.call79 rfl Try.func79 rfl Try.ntmps79 rfl rfl (fun K_ hK11 => ?_)
      refine J_seq ?_
      refine J_region ?_
      refine JL_st (wants_none rfl) rfl (st_box' rfl (fun w hh => (cv_aggs ⟨cv_int, cv_int, cv_int, trivial⟩))) (fun b12 => ?_)
      refine JL_q (wants_none rfl) rfl (ex_assign rfl) ?_
      refine JL_q (wants_none rfl) rfl (ex_assign rfl) ?_
      refine JL_nil ?_
      refine N_then ?_
      refine J_seq ?_
      refine J_region ?_
      refine JL_q (wants_none rfl) rfl (ex_move rfl) ?_
      refine JL_q (wants_none rfl) rfl (ex_build si_28 rfl (.cons fi_28_0 rfl rfl .nil) (fun w hh => ⟨cv_int, trivial⟩)) ?_
      refine JL_st (wants_none rfl) rfl (st_makeMap (κ := GfoldPlace) (ν := Int) (enc := GfoldPlace.enc) (venc := (Value.int .i64))) (fun b13 => ?_)
      refine JL_q (wants_none rfl) rfl (ex_buildN [(0, .agg #[.int .i64 (w64 (p0.Symbols + 1)), .int .i64 0, .slice none 0 0], [.int .i64 (w64 (p0.Symbols + 1)), .int .i64 0, .slice none 0 0]), (2, .map (some b13), [.map (some b13)])] si_115 rfl (.cons fi_115_0 rfl rfl rfl (.cons fi_115_2 rfl rfl rfl .nil)) (fun w hh => ⟨(cv_aggs ⟨cv_int, cv_int, cv_slice, trivial⟩), cv_map, trivial⟩)) ?_
      refine JL_st (wants_none rfl) rfl (st_box' rfl (fun w hh => (cv_aggs ⟨cv_int, cv_int, cv_slice, cv_slice, cv_map, trivial⟩))) (fun b14 => ?_)
      refine JL_q (wants_none rfl) rfl (ex_assign rfl) ?_
      refine JL_nil ?_
      refine N_then ?_
      refine J_seq ?_
      refine J_region ?_
      refine JL_q (wants_none rfl) rfl (ex_move rfl) ?_
      refine JL_q (wants_none rfl) rfl (ex_load_bx_agg 2 ti_68 rfl rfl rfl rfl) ?_
      refine JL_inline (wants_none rfl) rfl Try.call99 rfl Try.func99 rfl Try.ntmps99 rfl rfl (fun K_ hK15 => ?_)
      refine J_seq ?_
      refine J_region ?_
      refine JL_st (wants_none rfl) rfl (st_box' rfl (fun w hh => (cv_aggs ⟨cv_int, cv_int, cv_int, trivial⟩))) (fun b16 => ?_)
      refine JL_q (wants_none rfl) rfl (ex_assign rfl) ?_
      refine JL_nil ?_
      refine N_then ?_
      refine J_seq ?_
      refine J_draw [] (by kernel_rfl) ?_
      refine JP_take (i := 0) [0, 1, 2, 3, 4, 5, 6, 7] [] rfl (by kernel_rfl) (by kernel_rfl) (by kernel_rfl) rfl rfl (wants_none rfl) rfl (ex_move rfl) ?_
      refine JP_take (i := 1) [0, 1, 2, 3, 4, 5, 6, 7] [] rfl (by kernel_rfl) (by kernel_rfl) (by kernel_rfl) rfl rfl (wants_none rfl) rfl (ex_nilCheck rfl) ?_
      refine JP_take (i := 2) [0, 1, 2, 3, 4, 5, 6, 7] [] rfl (by kernel_rfl) (by kernel_rfl) (by kernel_rfl) rfl rfl (wants_none rfl) rfl (ex_fieldAddr fi_115_2 rfl rfl) ?_
      refine JP_take (i := 3) [0, 1, 2, 3, 4, 5, 6, 7] [] rfl (by kernel_rfl) (by kernel_rfl) (by kernel_rfl) rfl rfl (wants_none rfl) rfl (ex_load_bx 1 ti_113 rfl rfl rfl) ?_
      refine JP_take (i := 4) [0, 1, 2, 3, 4, 5, 6, 7] [] rfl (by kernel_rfl) (by kernel_rfl) (by kernel_rfl) rfl rfl (wants_none rfl) rfl (ex_load_bx_agg 0 ti_68 rfl rfl rfl rfl) ?_
      refine JP_take (i := 5) [0, 1, 2, 3, 4, 5, 6, 7] [] rfl (by kernel_rfl) (by kernel_rfl) (by kernel_rfl) rfl rfl (wants_none rfl) rfl (ex_lookup_ok (x := (⟨0, 0, 0⟩ : GfoldPlace)) (z := 0) 2 key_68 Try.underlying113 zi_2 rfl rfl rfl rfl rfl) ?_
      refine JP_take (i := 6) [0, 1, 2, 3, 4, 5, 6, 7] [] rfl (by kernel_rfl) (by kernel_rfl) (by kernel_rfl) rfl rfl (wants_none rfl) rfl (ex_move rfl) ?_
      refine JP_take (i := 7) [0, 1, 2, 3, 4, 5, 6, 7] [] rfl (by kernel_rfl) (by kernel_rfl) (by kernel_rfl) rfl rfl (wants_none rfl) rfl (ex_extract rfl rfl) ?_
      refine JP_take (i := 8) [0, 1, 2, 3, 4, 5, 6, 7] [] rfl (by kernel_rfl) (by kernel_rfl) (by kernel_rfl) rfl rfl (wants_none rfl) rfl (ex_extract rfl rfl) ?_
      refine JP_take (i := 9) [0, 1, 2, 3, 4, 5, 6, 7] [] rfl (by kernel_rfl) (by kernel_rfl) (by kernel_rfl) rfl rfl (wants_none rfl) rfl (ex_assign rfl) ?_
      refine JP_take (i := 10) [0, 1, 2, 3, 4, 5, 6, 7] [] rfl (by kernel_rfl) (by kernel_rfl) (by kernel_rfl) rfl rfl (wants_none rfl) rfl (ex_assign rfl) ?_
      refine JP_go [] [] rfl rfl rfl (fun _ _ _ => ?_)
      refine JD_done (by kernel_rfl) ?_
      refine N_then ?_
      refine J_seq ?_
      refine J_cut' (S' := Int × (List GfoldPlace) × List (GfoldPlace × Int)) (G' := Value) (fun s17 g18 => [(5, .int .i64 s17.1)]) (fun s17 g18 => [.bx b2 28 [.int .i64 0, .int .i64 0, .slice none 0 0], .ow 68 g18 s17.2.1, mpf GfoldPlace.enc (Value.int .i64) b13 s17.2.2, .bx b14 115 [.int .i64 (w64 (p0.Symbols + 1)), .int .i64 0, .slice none 0 0, g18, .map (some b13)], .rd v0_0 p0.Rules, .bx b7 28 [.int .i64 p0.Symbols, .int .i64 p0.States, v0_0]]) ?_ (fun s17 g18 => ?_)
      · refine J_seq ?_
        refine J_region ?_
        refine JL_q (wants_none rfl) rfl (ex_move rfl) ?_
        refine JL_q (wants_none rfl) rfl (ex_not rfl) ?_
        refine JL_nil ?_
        refine N_then ?_
        refine J_if rfl (fun h19 => ?_) (fun h19 => ?_)
        · refine J_seq ?_
          refine J_region ?_
          refine JL_q (wants_none rfl) rfl (ex_move rfl) ?_
          refine JL_q (wants_none rfl) rfl (ex_nilCheck rfl) ?_
          refine JL_q (wants_none rfl) rfl (ex_fieldAddr fi_115_1 rfl rfl) ?_
          refine JL_q (wants_none rfl) rfl (ex_load_bx 1 ti_112 rfl rfl rfl) ?_
          refine JL_bnd fun r20 hr21 => ?_
          refine JL_call (wants_none rfl) rfl Try.call100 rfl (Ca_of0 fun w hh => c_impl_size_impl_foldPlace _ w (fun _ hk => hk.elim) _ _ rdNil _ hr21) (fun _ => ?_)
          refine JL_q (wants_none rfl) rfl (ex_assign rfl) ?_
          refine JL_nil ?_
          refine N_then ?_
          refine J_seq ?_
          refine J_draw [2] (by kernel_rfl) ?_
          refine JP_take (i := 0) [0, 1, 3, 4, 5, 6, 7] [2] rfl (by kernel_rfl) (by kernel_rfl) (by kernel_rfl) rfl rfl (wants_none rfl) rfl (ex_move rfl) ?_
          refine JP_take (i := 1) [0, 1, 3, 4, 5, 6, 7] [2] rfl (by kernel_rfl) (by kernel_rfl) (by kernel_rfl) rfl rfl (wants_none rfl) rfl (ex_nilCheck rfl) ?_
          refine JP_take (i := 2) [0, 1, 3, 4, 5, 6, 7] [2] rfl (by kernel_rfl) (by kernel_rfl) (by kernel_rfl) rfl rfl (wants_none rfl) rfl (ex_fieldAddr fi_115_2 rfl rfl) ?_
          refine JP_take (i := 3) [0, 1, 3, 4, 5, 6, 7] [2] rfl (by kernel_rfl) (by kernel_rfl) (by kernel_rfl) rfl rfl (wants_none rfl) rfl (ex_load_bx 1 ti_113 rfl rfl rfl) ?_
          refine JP_take (i := 4) [0, 1, 3, 4, 5, 6, 7] [2] rfl (by kernel_rfl) (by kernel_rfl) (by kernel_rfl) rfl rfl (wants_none rfl) rfl (ex_load_bx_agg 0 ti_68 rfl rfl rfl rfl) ?_
          refine JP_take (i := 5) [0, 1, 3, 4, 5, 6, 7] [2] rfl (by kernel_rfl) (by kernel_rfl) (by kernel_rfl) rfl rfl (wants_none rfl) rfl (ex_move rfl) ?_
          refine JP_go [0, 1, 3, 4, 5, 6, 7] [2] rfl rfl rfl (fun w23 h1_24 hp22 => ?_)
          refine JD_one (i := 6) (by kernel_rfl) ?_
          refine JO_sk rfl (wants_none rfl) (sk_mapUpdate (x := (⟨0, 0, 0⟩ : GfoldPlace)) (y := r20) 2 key_68 Try.underlying113 rfl rfl rfl rfl rfl rfl rfl rfl) (sub_mp 0 rfl) ?_
          refine JD_done (by kernel_rfl) ?_
          refine N_then ?_
          refine J_draw [1] (by kernel_rfl) ?_
          refine JP_take (i := 0) [0, 2, 3, 4, 5, 6, 7] [1] rfl (by kernel_rfl) (by kernel_rfl) (by kernel_rfl) rfl rfl (wants_none rfl) rfl (ex_move rfl) ?_
          refine JP_take (i := 1) [0, 2, 3, 4, 5, 6, 7] [1] rfl (by kernel_rfl) (by kernel_rfl) (by kernel_rfl) rfl rfl (wants_none rfl) rfl (ex_move rfl) ?_
          refine JP_take (i := 2) [0, 2, 3, 4, 5, 6, 7] [1] rfl (by kernel_rfl) (by kernel_rfl) (by kernel_rfl) rfl rfl (wants_none rfl) rfl (ex_nilCheck rfl) ?_
          refine JP_take (i := 3) [0, 2, 3, 4, 5, 6, 7] [1] rfl (by kernel_rfl) (by kernel_rfl) (by kernel_rfl) rfl rfl (wants_none rfl) rfl (ex_fieldAddr fi_115_1 rfl rfl) ?_
          refine JP_take (i := 5) [0, 2, 3, 4, 5, 6, 7] [1] rfl (by kernel_rfl) (by kernel_rfl) (by kernel_rfl) rfl rfl (wants_none rfl) rfl (ex_load_bx_agg 0 ti_68 rfl rfl rfl rfl) ?_
          refine JP_go [0, 2, 3, 4, 5, 6, 7] [1] rfl rfl rfl (fun w26 h1_27 hp25 => ?_)
          refine JD_two (i := 4) (j := 6) (by kernel_rfl) ?_ ?_
          · refine JO_q rfl (wants_none rfl) rfl (ex_load_bx 1 ti_112 rfl rfl rfl) ?_
            refine JD_one (i := 6) (by kernel_rfl) ?_
            refine JO_st rfl (wants_none rfl) rfl (st_buildSlice (vs := [.agg #[.int .i64 0, .int .i64 0, .int .i64 0]]) ([(⟨0, 0, 0⟩ : GfoldPlace)] : List GfoldPlace) Try.underlying112 ti_68 zi_68 rfl rfl rfl (fun w hh => ⟨(GfoldPlace.rdmk (Rd.mk_int _ _ _) (Rd.mk_int _ _ _) (Rd.mk_int _ _ _)), trivial⟩)) (fun _ hk => nomatch hk) (fun b28 => ?_)
            refine JD_bnd fun z29 hz30 => ?_
            refine JD_one (i := 7) (by kernel_rfl) ?_
            refine JO_ctx (fun w hh => SH.ow_nil (α := GfoldPlace) 68 hh) (fun _ hb => hb) ?_
            refine JO_st2 0 [1] [0, 2, 3, 4, 5, 6, 7] [2, 4, 5, 6, 7, 8, 9] rfl rfl rfl rfl rfl rfl (wants_none rfl) rfl (st_append 0 Try.underlying112 ti_68 zi_68 rfl bi_68 rfl rfl rfl rfl (fun w hh => hh.src_ow 1 rfl) hz30) (fun _ hk => hk) (fun v31 => ?_)
            refine JD_take (i := 8) hp25 rfl (by kernel_rfl) (by kernel_rfl) (by kernel_rfl) (wants_none rfl) rfl (ex_nilCheck rfl) ?_
            refine JD_take (i := 9) hp25 rfl (by kernel_rfl) (by kernel_rfl) (by kernel_rfl) (wants_none rfl) rfl (ex_fieldAddr fi_115_1 rfl rfl) ?_
            refine JD_one (i := 10) (by kernel_rfl) ?_
            refine JO_sk rfl (wants_none rfl) (sk_store_bx' 3 ti_112 rfl rfl (fun w hh => (hh.cv_ow 0 rfl)) rfl rfl rfl rfl) (sub_bx 0 rfl) ?_
            refine JD_done (by kernel_rfl) ?_
            exact N_meet' v31 ⟨rfl, trivial⟩ [7, 0, 4, 3, 9, 6] rfl rfl
          · refine JO_st rfl (wants_none rfl) rfl (st_buildSlice (vs := [.agg #[.int .i64 0, .int .i64 0, .int .i64 0]]) ([(⟨0, 0, 0⟩ : GfoldPlace)] : List GfoldPlace) Try.underlying112 ti_68 zi_68 rfl rfl rfl (fun w hh => ⟨(GfoldPlace.rdmk (Rd.mk_int _ _ _) (Rd.mk_int _ _ _) (Rd.mk_int _ _ _)), trivial⟩)) (fun _ hk => nomatch hk) (fun b32 => ?_)
            refine JD_one (i := 4) (by kernel_rfl) ?_
            refine JO_q rfl (wants_none rfl) rfl (ex_load_bx 2 ti_112 rfl rfl rfl) ?_
            refine JD_bnd fun z33 hz34 => ?_
            refine JD_one (i := 7) (by kernel_rfl) ?_
            refine JO_ctx (fun w hh => SH.ow_nil (α := GfoldPlace) 68 hh) (fun _ hb => hb) ?_
            refine JO_st2 0 [1] [0, 2, 3, 4, 5, 6, 7] [2, 4, 5, 6, 7, 8, 9] rfl rfl rfl rfl rfl rfl (wants_none rfl) rfl (st_append 0 Try.underlying112 ti_68 zi_68 rfl bi_68 rfl rfl rfl rfl (fun w hh => hh.src_ow 1 rfl) hz34) (fun _ hk => hk) (fun v35 => ?_)
            refine JD_take (i := 8) hp25 rfl (by kernel_rfl) (by kernel_rfl) (by kernel_rfl) (wants_none rfl) rfl (ex_nilCheck rfl) ?_
            refine JD_take (i := 9) hp25 rfl (by kernel_rfl) (by kernel_rfl) (by kernel_rfl) (wants_none rfl) rfl (ex_fieldAddr fi_115_1 rfl rfl) ?_
            refine JD_one (i := 10) (by kernel_rfl) ?_
            refine JO_sk rfl (wants_none rfl) (sk_store_bx' 3 ti_112 rfl rfl (fun w hh => (hh.cv_ow 0 rfl)) rfl rfl rfl rfl) (sub_bx 0 rfl) ?_
            refine JD_done (by kernel_rfl) ?_
            exact N_meet' v35 ⟨rfl, trivial⟩ [7, 0, 4, 3, 9, 6] rfl rfl
        · refine J_skip ?_
          refine N_ctx (fun w hh => SH.ow_nil (α := GfoldPlace) 68 hh) ?_
          exact N_meet' (.slice none 0 0 : Value) ⟨rfl, trivial⟩ [6, 0, 3, 2, 8, 5] rfl rfl
      · refine N_then ?_
        refine J_seq ?_
        refine J_region ?_
        refine JL_q (wants_none rfl) rfl (ex_move rfl) ?_
        refine JL_q (wants_none rfl) rfl (ex_assign rfl) ?_
        refine JL_nil ?_
        refine N_then ?_
        refine J_ret ?_
        refine N_inl1 hK15 rfl (rv_tmp rfl) ?_
        refine JL_nil ?_
        refine N_then ?_
        refine J_seq ?_
        refine J_seq ?_
        refine J_region ?_
        refine JL_q (wants_none rfl) rfl (ex_assign rfl) ?_
        refine JL_nil ?_
        refine N_then ?_
        refine J_ctx (fun w hh => SH.ow_nil (α := GRule) 97 hh) ?_
        refine J_loop' (S := (List GRule) × (List GfoldPlace) × List (GfoldPlace × Int) × Int) (G := Value × Value) (F_impl_FoldMachine_L1 p0) (fun s36 g37 => [(0, .int .i64 (w64 (p0.Symbols + 1))), (2, .func (.func 80) #[] #[.pointer (some ⟨b7, 0, none⟩)]), (8, .pointer (some ⟨b14, 0, none⟩)), (9, .int .i64 s36.2.2.2)]) (fun s36 g37 => [.rd v0_0 p0.Rules, .bx b7 28 [.int .i64 p0.Symbols, .int .i64 p0.States, v0_0], .ow 97 g37.1 s36.1, .ow 68 g37.2 s36.2.1, mpf GfoldPlace.enc (Value.int .i64) b13 s36.2.2.1, .bx b14 115 [.int .i64 (w64 (p0.Symbols + 1)), .int .i64 0, g37.1, g37.2, .map (some b13)], .bx b2 28 [.int .i64 0, .int .i64 0, .slice none 0 0]]) (([] : (List GRule)), s17.2.1, s17.2.2, 0) ((.slice none 0 0 : Value), g18) ⟨rfl, rfl, rfl, rfl, trivial⟩ [5, 6, 0, 2, 3, 4, 1] rfl rfl (fun s36 g37 => ?_) (fun s36 g37 => ?_)
        · obtain ⟨g37_0, g37_1⟩ := g37
          unfold F_impl_FoldMachine_L1
          refine J_seq ?_
          refine J_seq ?_
          refine J_region ?_
          refine JL_q (wants_none rfl) rfl (ex_move rfl) ?_
          refine JL_q (wants_none rfl) rfl (ex_move rfl) ?_
          refine JL_q (wants_none rfl) rfl (ex_nilCheck rfl) ?_
          refine JL_q (wants_none rfl) rfl (ex_fieldAddr fi_115_1 rfl rfl) ?_
          refine JL_q (wants_none rfl) rfl (ex_load_bx 5 ti_112 rfl rfl rfl) ?_
          refine JL_q (wants_none rfl) rfl (ex_len_ow 3 Try.underlying112 rfl rfl) ?_
          refine JL_q (wants_none rfl) rfl (ex_lss rfl rfl) ?_
          refine JL_nil ?_
          refine N_then ?_
          refine J_if rfl (fun h38 => ?_) (fun h38 => ?_)
          · refine J_skip ?_
            refine N_then ?_
            refine J_seq ?_
            refine J_block ?_
            refine J_seq ?_
            refine J_seq ?_
            refine J_region ?_
            refine JL_q (wants_none rfl) rfl (ex_move rfl) ?_
            refine JL_q (wants_none rfl) rfl (ex_move rfl) ?_
            refine JL_nil ?_
            refine N_then ?_
            refine J_loop' (S := (List GRule) × (List GfoldPlace) × List (GfoldPlace × Int) × Int) (G := Value × Value) (F_impl_FoldMachine_L2 p0 s36) (fun s39 g40 => [(0, .int .i64 (w64 (p0.Symbols + 1))), (2, .func (.func 80) #[] #[.pointer (some ⟨b7, 0, none⟩)]), (8, .pointer (some ⟨b14, 0, none⟩)), (9, .int .i64 s36.2.2.2), (30, .int .i64 (w64 (p0.Symbols + 1))), (31, .int .i64 s39.2.2.2)]) (fun s39 g40 => [.rd v0_0 p0.Rules, .bx b7 28 [.int .i64 p0.Symbols, .int .i64 p0.States, v0_0], .ow 97 g40.1 s39.1, .ow 68 g40.2 s39.2.1, mpf GfoldPlace.enc (Value.int .i64) b13 s39.2.2.1, .bx b14 115 [.int .i64 (w64 (p0.Symbols + 1)), .int .i64 0, g40.1, g40.2, .map (some b13)], .bx b2 28 [.int .i64 0, .int .i64 0, .slice none 0 0]]) (s36.1, s36.2.1, s36.2.2.1, 0) (g37_0, g37_1) ⟨rfl, rfl, rfl, rfl, rfl, rfl, trivial⟩ [0, 1, 2, 3, 4, 5, 6] rfl rfl (fun s39 g40 => ?_) (fun s39 g40 => ?_)
            · obtain ⟨g40_0, g40_1⟩ := g40
              unfold F_impl_FoldMachine_L2
              refine J_seq ?_
              refine J_region ?_
              refine JL_q (wants_none rfl) rfl (ex_lss rfl rfl) ?_
              refine JL_nil ?_
              refine N_then ?_
              refine J_seq ?_
              refine J_if rfl (fun h41 => ?_) (fun h41 => ?_)
              · refine J_skip ?_
                refine N_then ?_
                refine J_seq ?_
                refine J_block ?_
                refine J_seq ?_
                refine J_region ?_
                refine JL_q (wants_none rfl) rfl (ex_move rfl) ?_
                refine JL_q (wants_none rfl) rfl (ex_assign rfl) ?_
                refine JL_nil ?_
                refine N_then ?_
                refine J_seq ?_
                refine J_region ?_
                refine JL_bnd fun r42 hr43 => ?_
                refine JL_call (wants_none rfl) rfl Try.call97 rfl (Ca_of0 fun w hh => c_impl_noRule _ w (fun _ hk => hk.elim)  _ hr43) (fun _ => ?_)
                refine JL_st (wants_none rfl) rfl (st_alloc zi_97 rfl) (fun b44 => ?_)
                refine JL_sk (wants_none rfl) (sk_store_bx' 0 ti_97 rfl rfl (fun w hh => (cv_aggs ⟨cv_int, cv_int, cv_int, trivial⟩)) rfl rfl rfl rfl) ?_
                refine JL_nil ?_
                refine N_then ?_
                refine J_seq ?_
                refine J_cut' (S' := (List GfoldPlace) × List (GfoldPlace × Int) × Int × Int × Int) (G' := Value) (fun s45 g46 => [(0, .int .i64 (w64 (p0.Symbols + 1))), (2, .func (.func 80) #[] #[.pointer (some ⟨b7, 0, none⟩)]), (8, .pointer (some ⟨b14, 0, none⟩)), (9, .int .i64 s36.2.2.2), (11, .pointer (some ⟨b44, 0, none⟩)), (30, .int .i64 (w64 (p0.Symbols + 1))), (31, .int .i64 s39.2.2.2)]) (fun s45 g46 => [.rd v0_0 p0.Rules, .bx b7 28 [.int .i64 p0.Symbols, .int .i64 p0.States, v0_0], .ow 97 g40_0 s39.1, .ow 68 g46 s45.1, mpf GfoldPlace.enc (Value.int .i64) b13 s45.2.1, .bx b14 115 [.int .i64 (w64 (p0.Symbols + 1)), .int .i64 0, g40_0, g46, .map (some b13)], .bx b44 97 [.int .i64 s45.2.2.1, .int .i64 s45.2.2.2.1, .int .i64 s45.2.2.2.2], .bx b2 28 [.int .i64 0, .int .i64 0, .slice none 0 0]]) ?_ (fun s45 g46 => ?_)
                · refine J_seq ?_
                  refine J_region ?_
                  refine JL_q (wants_none rfl) rfl (ex_move rfl) ?_
                  refine JL_q (wants_none rfl) rfl (ex_move rfl) ?_
                  refine JL_q (wants_none rfl) rfl (ex_nilCheck rfl) ?_
                  refine JL_q (wants_none rfl) rfl (ex_fieldAddr fi_115_1 rfl rfl) ?_
                  refine JL_q (wants_none rfl) rfl (ex_load_bx 6 ti_112 rfl rfl rfl) ?_
                  refine JL_q (wants_none rfl) rfl (ex_move rfl) ?_
                  refine JL_bnd fun y47 hy48 => ?_
                  refine JL_ow_open (v := g40_1) 4 rfl hy48 ?_; rintro b49 cap50 rfl
                  refine JL_q (wants_none rfl) rfl (ex_index_ow 4 Try.underlying112 ti_68 rfl rfl rfl hy48) ?_
                  refine JL_st (wants_none rfl) rfl (st_load_ow_o 4 (GfoldPlace.opens _) ti_68 rfl rfl hy48) (fun _ => ?_)
                  refine JL_q (wants_none rfl) rfl (ex_move rfl) ?_
                  refine JL_bnd fun r52 hr53 => ?_
                  refine JL_callv (args := [_, _]) (caps := [.pointer (some ⟨b7, 0, none⟩)]) (wants_none rfl) rfl Try.call80 rfl rfl (Ca_of0 fun w hh => c_impl_folded_1 nowhere w (fun _ hk => hk.elim) _ _ (GfoldPlace.rdmk (Rd.mk_int _ _ _) (Rd.mk_int _ _ _) (Rd.mk_int _ _ _)) _ _ _ (hh.bx_pa 2 rfl (GMachine.rdmk (Rd.mk_int _ _ _) (Rd.mk_int _ _ _) (hh.rd0 1 rfl)) rfl) _ hr53) (fun _ => ?_)
                  refine JL_st (wants_none rfl) rfl (st_alloc zi_118 rfl) (fun b54 => ?_)
                  refine JL_sk (wants_none rfl) (sk_store_bx' 0 ti_118 rfl rfl (fun w hh => (cv_aggs ⟨cv_int, cv_int, cv_int, cv_int, cv_int, cv_bool, trivial⟩)) rfl rfl rfl rfl) ?_
                  refine JL_nil ?_
                  refine N_then ?_
                  refine J_seq ?_
                  refine J_region ?_
                  refine JL_q (wants_none rfl) rfl (ex_fieldAddr fi_118_3 rfl rfl) ?_
                  refine JL_q (wants_none rfl) rfl (ex_load_bx 0 ti_4 rfl rfl rfl) ?_
                  refine JL_q (wants_none rfl) rfl (ex_not rfl) ?_
                  refine JL_nil ?_
                  refine N_then ?_
                  refine J_if rfl (fun h55 => ?_) (fun h55 => ?_)
                  · refine J_draw [1, 4, 5, 6, 7] (by kernel_rfl) ?_
                    refine JP_take (i := 0) [0, 2, 3, 8] [1, 4, 5, 6, 7] rfl (by kernel_rfl) (by kernel_rfl) (by kernel_rfl) rfl rfl (wants_none rfl) rfl (ex_fieldAddr fi_118_0 rfl rfl) ?_
                    refine JP_take (i := 1) [0, 2, 3, 8] [1, 4, 5, 6, 7] rfl (by kernel_rfl) (by kernel_rfl) (by kernel_rfl) rfl rfl (wants_none rfl) rfl (ex_load_bx 0 ti_2 rfl rfl rfl) ?_
                    refine JP_take (i := 2) [0, 2, 3, 8] [1, 4, 5, 6, 7] rfl (by kernel_rfl) (by kernel_rfl) (by kernel_rfl) rfl rfl (wants_none rfl) rfl (ex_fieldAddr fi_118_1 rfl rfl) ?_
                    refine JP_take (i := 3) [0, 2, 3, 8] [1, 4, 5, 6, 7] rfl (by kernel_rfl) (by kernel_rfl) (by kernel_rfl) rfl rfl (wants_none rfl) rfl (ex_load_bx 0 ti_2 rfl rfl rfl) ?_
                    refine JP_take (i := 4) [0, 2, 3, 8] [1, 4, 5, 6, 7] rfl (by kernel_rfl) (by kernel_rfl) (by kernel_rfl) rfl rfl (wants_none rfl) rfl (ex_move rfl) ?_
                    refine JP_take (i := 5) [0, 2, 3, 8] [1, 4, 5, 6, 7] rfl (by kernel_rfl) (by kernel_rfl) (by kernel_rfl) rfl rfl (wants_none rfl) rfl (ex_fieldAddr fi_118_2 rfl rfl) ?_
                    refine JP_take (i := 6) [0, 2, 3, 8] [1, 4, 5, 6, 7] rfl (by kernel_rfl) (by kernel_rfl) (by kernel_rfl) rfl rfl (wants_none rfl) rfl (ex_load_bx_agg 0 ti_68 rfl rfl rfl rfl) ?_
                    refine JP_go [0, 2, 3, 8] [1, 4, 5, 6, 7] rfl rfl rfl (fun w57 h1_58 hp56 => ?_)
                    refine JD_one (i := 7) (by kernel_rfl) ?_
                    refine JO_inline h1_58 [1, 4, 5, 6, 7] [0, 3, 8] rfl rfl rfl rfl (wants_none rfl) rfl Try.call99 rfl Try.func99 rfl Try.ntmps99 rfl rfl (fun C60 K_ hK59 => ?_)
                    refine J_seq ?_
                    refine J_region ?_
                    refine JL_st (wants_none rfl) rfl (st_box' rfl (fun w hh => (cv_aggs ⟨cv_int, cv_int, cv_int, trivial⟩))) (fun b61 => ?_)
                    refine JL_q (wants_none rfl) rfl (ex_assign rfl) ?_
                    refine JL_nil ?_
                    refine N_then ?_
                    refine J_seq ?_
                    refine J_draw [] (by kernel_rfl) ?_
                    refine JP_take (i := 0) [0, 1, 2, 3, 4, 5, 6, 7, 8, 9, 10] [] rfl (by kernel_rfl) (by kernel_rfl) (by kernel_rfl) rfl rfl (wants_none rfl) rfl (ex_move rfl) ?_
                    refine JP_take (i := 1) [0, 1, 2, 3, 4, 5, 6, 7, 8, 9, 10] [] rfl (by kernel_rfl) (by kernel_rfl) (by kernel_rfl) rfl rfl (wants_none rfl) rfl (ex_nilCheck rfl) ?_
                    refine JP_take (i := 2) [0, 1, 2, 3, 4, 5, 6, 7, 8, 9, 10] [] rfl (by kernel_rfl) (by kernel_rfl) (by kernel_rfl) rfl rfl (wants_none rfl) rfl (ex_fieldAddr fi_115_2 rfl rfl) ?_
                    refine JP_take (i := 3) [0, 1, 2, 3, 4, 5, 6, 7, 8, 9, 10] [] rfl (by kernel_rfl) (by kernel_rfl) (by kernel_rfl) rfl rfl (wants_none rfl) rfl (ex_load_bx 9 ti_113 rfl rfl rfl) ?_
                    refine JP_take (i := 4) [0, 1, 2, 3, 4, 5, 6, 7, 8, 9, 10] [] rfl (by kernel_rfl) (by kernel_rfl) (by kernel_rfl) rfl rfl (wants_none rfl) rfl (ex_load_bx_agg 0 ti_68 rfl rfl rfl rfl) ?_
                    refine JP_take (i := 5) [0, 1, 2, 3, 4, 5, 6, 7, 8, 9, 10] [] rfl (by kernel_rfl) (by kernel_rfl) (by kernel_rfl) rfl rfl (wants_none rfl) rfl (ex_lookup_ok (x := (⟨r52.next_kind, r52.next_q, r52.next_half⟩ : GfoldPlace)) (z := 0) 8 key_68 Try.underlying113 zi_2 rfl rfl rfl rfl rfl) ?_
                    refine JP_take (i := 6) [0, 1, 2, 3, 4, 5, 6, 7, 8, 9, 10] [] rfl (by kernel_rfl) (by kernel_rfl) (by kernel_rfl) rfl rfl (wants_none rfl) rfl (ex_move rfl) ?_
                    refine JP_take (i := 7) [0, 1, 2, 3, 4, 5, 6, 7, 8, 9, 10] [] rfl (by kernel_rfl) (by kernel_rfl) (by kernel_rfl) rfl rfl (wants_none rfl) rfl (ex_extract rfl rfl) ?_
                    refine JP_take (i := 8) [0, 1, 2, 3, 4, 5, 6, 7, 8, 9, 10] [] rfl (by kernel_rfl) (by kernel_rfl) (by kernel_rfl) rfl rfl (wants_none rfl) rfl (ex_extract rfl rfl) ?_
                    refine JP_take (i := 9) [0, 1, 2, 3, 4, 5, 6, 7, 8, 9, 10] [] rfl (by kernel_rfl) (by kernel_rfl) (by kernel_rfl) rfl rfl (wants_none rfl) rfl (ex_assign rfl) ?_
                    refine JP_take (i := 10) [0, 1, 2, 3, 4, 5, 6, 7, 8, 9, 10] [] rfl (by kernel_rfl) (by kernel_rfl) (by kernel_rfl) rfl rfl (wants_none rfl) rfl (ex_assign rfl) ?_
                    refine JP_go [] [] rfl rfl rfl (fun _ _ _ => ?_)
                    refine JD_done (by kernel_rfl) ?_
                    refine N_then ?_
                    refine J_seq ?_
                    refine J_seq ?_
                    refine J_region ?_
                    refine JL_q (wants_none rfl) rfl (ex_move rfl) ?_
                    refine JL_q (wants_none rfl) rfl (ex_not rfl) ?_
                    refine JL_nil ?_
                    refine N_then ?_
                    refine J_if rfl (fun h62 => ?_) (fun h62 => ?_)
                    · refine J_seq ?_
                      refine J_region ?_
                      refine JL_q (wants_none rfl) rfl (ex_move rfl) ?_
                      refine JL_q (wants_none rfl) rfl (ex_nilCheck rfl) ?_
                      refine JL_q (wants_none rfl) rfl (ex_fieldAddr fi_115_1 rfl rfl) ?_
                      refine JL_q (wants_none rfl) rfl (ex_load_bx 9 ti_112 rfl rfl rfl) ?_
                      refine JL_bnd fun r63 hr64 => ?_
                      refine JL_call (wants_none rfl) rfl Try.call100 rfl (Ca_of0 fun w hh => c_impl_size_impl_foldPlace _ w (fun _ hk => hk.elim) _ _ (hh.ow0 7 rfl) _ hr64) (fun _ => ?_)
                      refine JL_q (wants_none rfl) rfl (ex_assign rfl) ?_
                      refine JL_nil ?_
                      refine N_then ?_
                      refine J_seq ?_
                      refine J_draw [8] (by kernel_rfl) ?_
                      refine JP_take (i := 0) [0, 1, 2, 3, 4, 5, 6, 7, 9, 10] [8] rfl (by kernel_rfl) (by kernel_rfl) (by kernel_rfl) rfl rfl (wants_none rfl) rfl (ex_move rfl) ?_
                      refine JP_take (i := 1) [0, 1, 2, 3, 4, 5, 6, 7, 9, 10] [8] rfl (by kernel_rfl) (by kernel_rfl) (by kernel_rfl) rfl rfl (wants_none rfl) rfl (ex_nilCheck rfl) ?_
                      refine JP_take (i := 2) [0, 1, 2, 3, 4, 5, 6, 7, 9, 10] [8] rfl (by kernel_rfl) (by kernel_rfl) (by kernel_rfl) rfl rfl (wants_none rfl) rfl (ex_fieldAddr fi_115_2 rfl rfl) ?_
                      refine JP_take (i := 3) [0, 1, 2, 3, 4, 5, 6, 7, 9, 10] [8] rfl (by kernel_rfl) (by kernel_rfl) (by kernel_rfl) rfl rfl (wants_none rfl) rfl (ex_load_bx 8 ti_113 rfl rfl rfl) ?_
                      refine JP_take (i := 4) [0, 1, 2, 3, 4, 5, 6, 7, 9, 10] [8] rfl (by kernel_rfl) (by kernel_rfl) (by kernel_rfl) rfl rfl (wants_none rfl) rfl (ex_load_bx_agg 0 ti_68 rfl rfl rfl rfl) ?_
                      refine JP_take (i := 5) [0, 1, 2, 3, 4, 5, 6, 7, 9, 10] [8] rfl (by kernel_rfl) (by kernel_rfl) (by kernel_rfl) rfl rfl (wants_none rfl) rfl (ex_move rfl) ?_
                      refine JP_go [0, 1, 2, 3, 4, 5, 6, 7, 9, 10] [8] rfl rfl rfl (fun w66 h1_67 hp65 => ?_)
                      refine JD_one (i := 6) (by kernel_rfl) ?_
                      refine JO_sk rfl (wants_none rfl) (sk_mapUpdate (x := (⟨r52.next_kind, r52.next_q, r52.next_half⟩ : GfoldPlace)) (y := r63) 8 key_68 Try.underlying113 rfl rfl rfl rfl rfl rfl rfl rfl) (sub_mp 0 rfl) ?_
                      refine JD_done (by kernel_rfl) ?_
                      refine N_then ?_
                      refine J_draw [7, 9] (by kernel_rfl) ?_
                      refine JP_take (i := 0) [0, 1, 2, 3, 4, 5, 6, 8, 10] [7, 9] rfl (by kernel_rfl) (by kernel_rfl) (by kernel_rfl) rfl rfl (wants_none rfl) rfl (ex_move rfl) ?_
                      refine JP_take (i := 1) [0, 1, 2, 3, 4, 5, 6, 8, 10] [7, 9] rfl (by kernel_rfl) (by kernel_rfl) (by kernel_rfl) rfl rfl (wants_none rfl) rfl (ex_move rfl) ?_
                      refine JP_take (i := 2) [0, 1, 2, 3, 4, 5, 6, 8, 10] [7, 9] rfl (by kernel_rfl) (by kernel_rfl) (by kernel_rfl) rfl rfl (wants_none rfl) rfl (ex_nilCheck rfl) ?_
                      refine JP_take (i := 3) [0, 1, 2, 3, 4, 5, 6, 8, 10] [7, 9] rfl (by kernel_rfl) (by kernel_rfl) (by kernel_rfl) rfl rfl (wants_none rfl) rfl (ex_fieldAddr fi_115_1 rfl rfl) ?_
                      refine JP_take (i := 5) [0, 1, 2, 3, 4, 5, 6, 8, 10] [7, 9] rfl (by kernel_rfl) (by kernel_rfl) (by kernel_rfl) rfl rfl (wants_none rfl) rfl (ex_load_bx_agg 0 ti_68 rfl rfl rfl rfl) ?_
                      refine JP_go [0, 1, 2, 3, 4, 5, 6, 8, 10] [7, 9] rfl rfl rfl (fun w69 h1_70 hp68 => ?_)
                      refine JD_two (i := 4) (j := 6) (by kernel_rfl) ?_ ?_
                      · refine JO_q rfl (wants_none rfl) rfl (ex_load_bx 9 ti_112 rfl rfl rfl) ?_
                        refine JD_one (i := 6) (by kernel_rfl) ?_
                        refine JO_st rfl (wants_none rfl) rfl (st_buildSlice (vs := [.agg #[.int .i64 r52.next_kind, .int .i64 r52.next_q, .int .i64 r52.next_half]]) ([(⟨r52.next_kind, r52.next_q, r52.next_half⟩ : GfoldPlace)] : List GfoldPlace) Try.underlying112 ti_68 zi_68 rfl rfl rfl (fun w hh => ⟨(GfoldPlace.rdmk (Rd.mk_int _ _ _) (Rd.mk_int _ _ _) (Rd.mk_int _ _ _)), trivial⟩)) (fun _ hk => nomatch hk) (fun b71 => ?_)
                        refine JD_bnd fun z72 hz73 => ?_
                        refine JD_one (i := 7) (by kernel_rfl) ?_
                        refine JO_st rfl (wants_none rfl) rfl (st_append 8 Try.underlying112 ti_68 zi_68 rfl bi_68 rfl rfl rfl rfl (fun w hh => hh.src_ow 0 rfl) hz73) (sub_ow 0 rfl) (fun v74 => ?_)
                        refine JD_take (i := 8) hp68 rfl (by kernel_rfl) (by kernel_rfl) (by kernel_rfl) (wants_none rfl) rfl (ex_nilCheck rfl) ?_
                        refine JD_take (i := 9) hp68 rfl (by kernel_rfl) (by kernel_rfl) (by kernel_rfl) (wants_none rfl) rfl (ex_fieldAddr fi_115_1 rfl rfl) ?_
                        refine JD_one (i := 10) (by kernel_rfl) ?_
                        refine JO_sk rfl (wants_none rfl) (sk_store_bx' 10 ti_112 rfl rfl (fun w hh => (hh.cv_ow 8 rfl)) rfl rfl rfl rfl) (sub_bx 1 rfl) ?_
                        refine JD_done (by kernel_rfl) ?_
                        refine N_then ?_
                        refine J_seq ?_
                        refine J_region ?_
                        refine JL_q (wants_none rfl) rfl (ex_move rfl) ?_
                        refine JL_q (wants_none rfl) rfl (ex_assign rfl) ?_
                        refine JL_nil ?_
                        refine N_then ?_
                        refine J_ret ?_
                        refine N_inlD1 hK59 rfl (rv_tmp rfl) 2 [3, 6, 11] rfl rfl ?_
                        refine JD_take (i := 8) hp56 rfl (by kernel_rfl) (by kernel_rfl) (by kernel_rfl) (wants_none rfl) rfl (ex_build si_97 rfl (.cons fi_97_0 rfl rfl (.cons fi_97_1 rfl rfl (.cons fi_97_2 rfl rfl .nil))) (fun w hh => ⟨cv_int, cv_int, cv_int, trivial⟩)) ?_
                        refine JD_one (i := 9) (by kernel_rfl) ?_
                        refine JO_sk rfl (wants_none rfl) (sk_store_bx' 4 ti_97 rfl rfl (fun w hh => (cv_aggs ⟨cv_int, cv_int, cv_int, trivial⟩)) rfl rfl rfl rfl) (sub_bx 0 rfl) ?_
                        refine JD_done (by kernel_rfl) ?_
                        exact N_meet' v74 ⟨rfl, rfl, rfl, rfl, rfl, rfl, rfl, trivial⟩ [5, 6, 7, 8, 9, 10, 4, 11] rfl rfl
                      · refine JO_st rfl (wants_none rfl) rfl (st_buildSlice (vs := [.agg #[.int .i64 r52.next_kind, .int .i64 r52.next_q, .int .i64 r52.next_half]]) ([(⟨r52.next_kind, r52.next_q, r52.next_half⟩ : GfoldPlace)] : List GfoldPlace) Try.underlying112 ti_68 zi_68 rfl rfl rfl (fun w hh => ⟨(GfoldPlace.rdmk (Rd.mk_int _ _ _) (Rd.mk_int _ _ _) (Rd.mk_int _ _ _)), trivial⟩)) (fun _ hk => nomatch hk) (fun b75 => ?_)
                        refine JD_one (i := 4) (by kernel_rfl) ?_
                        refine JO_q rfl (wants_none rfl) rfl (ex_load_bx 10 ti_112 rfl rfl rfl) ?_
                        refine JD_bnd fun z76 hz77 => ?_
                        refine JD_one (i := 7) (by kernel_rfl) ?_
                        refine JO_st rfl (wants_none rfl) rfl (st_append 8 Try.underlying112 ti_68 zi_68 rfl bi_68 rfl rfl rfl rfl (fun w hh => hh.src_ow 0 rfl) hz77) (sub_ow 0 rfl) (fun v78 => ?_)
                        refine JD_take (i := 8) hp68 rfl (by kernel_rfl) (by kernel_rfl) (by kernel_rfl) (wants_none rfl) rfl (ex_nilCheck rfl) ?_
                        refine JD_take (i := 9) hp68 rfl (by kernel_rfl) (by kernel_rfl) (by kernel_rfl) (wants_none rfl) rfl (ex_fieldAddr fi_115_1 rfl rfl) ?_
                        refine JD_one (i := 10) (by kernel_rfl) ?_
                        refine JO_sk rfl (wants_none rfl) (sk_store_bx' 10 ti_112 rfl rfl (fun w hh => (hh.cv_ow 8 rfl)) rfl rfl rfl rfl) (sub_bx 1 rfl) ?_
                        refine JD_done (by kernel_rfl) ?_
                        refine N_then ?_
                        refine J_seq ?_
                        refine J_region ?_
                        refine JL_q (wants_none rfl) rfl (ex_move rfl) ?_
                        refine JL_q (wants_none rfl) rfl (ex_assign rfl) ?_
                        refine JL_nil ?_
                        refine N_then ?_
                        refine J_ret ?_
                        refine N_inlD1 hK59 rfl (rv_tmp rfl) 2 [3, 6, 11] rfl rfl ?_
                        refine JD_take (i := 8) hp56 rfl (by kernel_rfl) (by kernel_rfl) (by kernel_rfl) (wants_none rfl) rfl (ex_build si_97 rfl (.cons fi_97_0 rfl rfl (.cons fi_97_1 rfl rfl (.cons fi_97_2 rfl rfl .nil))) (fun w hh => ⟨cv_int, cv_int, cv_int, trivial⟩)) ?_
                        refine JD_one (i := 9) (by kernel_rfl) ?_
                        refine JO_sk rfl (wants_none rfl) (sk_store_bx' 4 ti_97 rfl rfl (fun w hh => (cv_aggs ⟨cv_int, cv_int, cv_int, trivial⟩)) rfl rfl rfl rfl) (sub_bx 0 rfl) ?_
                        refine JD_done (by kernel_rfl) ?_
                        exact N_meet' v78 ⟨rfl, rfl, rfl, rfl, rfl, rfl, rfl, trivial⟩ [5, 6, 7, 8, 9, 10, 4, 11] rfl rfl
                    · refine J_skip ?_
                      refine N_then ?_
                      refine J_seq ?_
                      refine J_region ?_
                      refine JL_q (wants_none rfl) rfl (ex_move rfl) ?_
                      refine JL_q (wants_none rfl) rfl (ex_assign rfl) ?_
                      refine JL_nil ?_
                      refine N_then ?_
                      refine J_ret ?_
                      refine N_inlD1 hK59 rfl (rv_tmp rfl) 1 [2, 5, 10] rfl rfl ?_
                      refine JD_take (i := 8) hp56 rfl (by kernel_rfl) (by kernel_rfl) (by kernel_rfl) (wants_none rfl) rfl (ex_build si_97 rfl (.cons fi_97_0 rfl rfl (.cons fi_97_1 rfl rfl (.cons fi_97_2 rfl rfl .nil))) (fun w hh => ⟨cv_int, cv_int, cv_int, trivial⟩)) ?_
                      refine JD_one (i := 9) (by kernel_rfl) ?_
                      refine JO_sk rfl (wants_none rfl) (sk_store_bx' 3 ti_97 rfl rfl (fun w hh => (cv_aggs ⟨cv_int, cv_int, cv_int, trivial⟩)) rfl rfl rfl rfl) (sub_bx 0 rfl) ?_
                      refine JD_done (by kernel_rfl) ?_
                      exact N_meet' (.slice (some ⟨b49, 0, none⟩) s39.2.1.length cap50) ⟨rfl, rfl, rfl, rfl, rfl, rfl, rfl, trivial⟩ [4, 5, 6, 7, 8, 9, 3, 10] rfl rfl
                  · refine J_skip ?_
                    exact N_meet' (.slice (some ⟨b49, 0, none⟩) s39.2.1.length cap50) ⟨rfl, rfl, rfl, rfl, rfl, rfl, rfl, trivial⟩ [2, 3, 4, 5, 6, 7, 1, 8] rfl rfl
                · refine N_then ?_
                  refine J_draw [2, 5] (by kernel_rfl) ?_
                  refine JP_take (i := 0) [0, 1, 3, 4, 6, 7] [2, 5] rfl (by kernel_rfl) (by kernel_rfl) (by kernel_rfl) rfl rfl (wants_none rfl) rfl (ex_move rfl) ?_
                  refine JP_take (i := 1) [0, 1, 3, 4, 6, 7] [2, 5] rfl (by kernel_rfl) (by kernel_rfl) (by kernel_rfl) rfl rfl (wants_none rfl) rfl (ex_move rfl) ?_
                  refine JP_take (i := 2) [0, 1, 3, 4, 6, 7] [2, 5] rfl (by kernel_rfl) (by kernel_rfl) (by kernel_rfl) rfl rfl (wants_none rfl) rfl (ex_nilCheck rfl) ?_
                  refine JP_take (i := 3) [0, 1, 3, 4, 6, 7] [2, 5] rfl (by kernel_rfl) (by kernel_rfl) (by kernel_rfl) rfl rfl (wants_none rfl) rfl (ex_fieldAddr fi_115_0 rfl rfl) ?_
                  refine JP_take (i := 4) [0, 1, 3, 4, 6, 7] [2, 5] rfl (by kernel_rfl) (by kernel_rfl) (by kernel_rfl) rfl rfl (wants_none rfl) rfl (ex_fieldAddr fi_28_2 rfl rfl) ?_
                  refine JP_take (i := 6) [0, 1, 3, 4, 6, 7] [2, 5] rfl (by kernel_rfl) (by kernel_rfl) (by kernel_rfl) rfl rfl (wants_none rfl) rfl (ex_load_bx_agg 4 ti_97 rfl rfl rfl rfl) ?_
                  refine JP_go [0, 1, 3, 4, 6, 7] [2, 5] rfl rfl rfl (fun w80 h1_81 hp79 => ?_)
                  refine JD_two (i := 5) (j := 7) (by kernel_rfl) ?_ ?_
                  · refine JO_q rfl (wants_none rfl) rfl (ex_load_bx 5 ti_26 rfl rfl rfl) ?_
                    refine JD_one (i := 7) (by kernel_rfl) ?_
                    refine JO_st rfl (wants_none rfl) rfl (st_buildSlice (vs := [.agg #[.int .i64 s45.2.2.1, .int .i64 s45.2.2.2.1, .int .i64 s45.2.2.2.2]]) ([(⟨s45.2.2.1, s45.2.2.2.1, s45.2.2.2.2⟩ : GRule)] : List GRule) Try.underlying26 ti_97 zi_97 rfl rfl rfl (fun w hh => ⟨(GRule.rdmk (Rd.mk_int _ _ _) (Rd.mk_int _ _ _) (Rd.mk_int _ _ _)), trivial⟩)) (fun _ hk => nomatch hk) (fun b82 => ?_)
                    refine JD_bnd fun z83 hz84 => ?_
                    refine JD_one (i := 8) (by kernel_rfl) ?_
                    refine JO_st rfl (wants_none rfl) rfl (st_append 3 Try.underlying26 ti_97 zi_97 rfl bi_97 rfl rfl rfl rfl (fun w hh => hh.src_ow 0 rfl) hz84) (sub_ow 0 rfl) (fun v85 => ?_)
                    refine JD_take (i := 9) hp79 rfl (by kernel_rfl) (by kernel_rfl) (by kernel_rfl) (wants_none rfl) rfl (ex_nilCheck rfl) ?_
                    refine JD_take (i := 10) hp79 rfl (by kernel_rfl) (by kernel_rfl) (by kernel_rfl) (wants_none rfl) rfl (ex_fieldAddr fi_115_0 rfl rfl) ?_
                    refine JD_take (i := 11) hp79 rfl (by kernel_rfl) (by kernel_rfl) (by kernel_rfl) (wants_none rfl) rfl (ex_fieldAddr fi_28_2 rfl rfl) ?_
                    refine JD_one (i := 12) (by kernel_rfl) ?_
                    refine JO_sk rfl (wants_none rfl) (sk_store_bx' 6 ti_26 rfl rfl (fun w hh => (hh.cv_ow 3 rfl)) rfl rfl rfl rfl) (sub_bx 1 rfl) ?_
                    refine JD_done (by kernel_rfl) ?_
                    refine N_block ?_
                    refine N_then ?_
                    refine J_region ?_
                    refine JL_q (wants_none rfl) rfl (ex_add rfl rfl) ?_
                    refine JL_q (wants_none rfl) rfl (ex_move rfl) ?_
                    refine JL_nil ?_
                    exact N_next' (v85, g46) ⟨rfl, rfl, rfl, rfl, rfl, rfl, trivial⟩ [1, 2, 3, 4, 5, 6, 8] rfl rfl
                  · refine JO_st rfl (wants_none rfl) rfl (st_buildSlice (vs := [.agg #[.int .i64 s45.2.2.1, .int .i64 s45.2.2.2.1, .int .i64 s45.2.2.2.2]]) ([(⟨s45.2.2.1, s45.2.2.2.1, s45.2.2.2.2⟩ : GRule)] : List GRule) Try.underlying26 ti_97 zi_97 rfl rfl rfl (fun w hh => ⟨(GRule.rdmk (Rd.mk_int _ _ _) (Rd.mk_int _ _ _) (Rd.mk_int _ _ _)), trivial⟩)) (fun _ hk => nomatch hk) (fun b86 => ?_)
                    refine JD_one (i := 5) (by kernel_rfl) ?_
                    refine JO_q rfl (wants_none rfl) rfl (ex_load_bx 6 ti_26 rfl rfl rfl) ?_
                    refine JD_bnd fun z87 hz88 => ?_
                    refine JD_one (i := 8) (by kernel_rfl) ?_
                    refine JO_st rfl (wants_none rfl) rfl (st_append 3 Try.underlying26 ti_97 zi_97 rfl bi_97 rfl rfl rfl rfl (fun w hh => hh.src_ow 0 rfl) hz88) (sub_ow 0 rfl) (fun v89 => ?_)
                    refine JD_take (i := 9) hp79 rfl (by kernel_rfl) (by kernel_rfl) (by kernel_rfl) (wants_none rfl) rfl (ex_nilCheck rfl) ?_
                    refine JD_take (i := 10) hp79 rfl (by kernel_rfl) (by kernel_rfl) (by kernel_rfl) (wants_none rfl) rfl (ex_fieldAddr fi_115_0 rfl rfl) ?_
                    refine JD_take (i := 11) hp79 rfl (by kernel_rfl) (by kernel_rfl) (by kernel_rfl) (wants_none rfl) rfl (ex_fieldAddr fi_28_2 rfl rfl) ?_
                    refine JD_one (i := 12) (by kernel_rfl) ?_
                    refine JO_sk rfl (wants_none rfl) (sk_store_bx' 6 ti_26 rfl rfl (fun w hh => (hh.cv_ow 3 rfl)) rfl rfl rfl rfl) (sub_bx 1 rfl) ?_
                    refine JD_done (by kernel_rfl) ?_
                    refine N_block ?_
                    refine N_then ?_
                    refine J_region ?_
                    refine JL_q (wants_none rfl) rfl (ex_add rfl rfl) ?_
                    refine JL_q (wants_none rfl) rfl (ex_move rfl) ?_
                    refine JL_nil ?_
                    exact N_next' (v89, g46) ⟨rfl, rfl, rfl, rfl, rfl, rfl, trivial⟩ [1, 2, 3, 4, 5, 6, 8] rfl rfl
              · refine J_exit ?_
                refine N_then_exit ?_
                exact N_break' (g40_0, g40_1) ⟨rfl, rfl, rfl, rfl, rfl, rfl, trivial⟩ [0, 1, 2, 3, 4, 5, 6] rfl rfl
            · obtain ⟨g40_0, g40_1⟩ := g40
              refine N_then ?_
              refine J_seq ?_
              refine J_region ?_
              refine JL_q (wants_none rfl) rfl (ex_move rfl) ?_
              refine JL_q (wants_none rfl) rfl (ex_nilCheck rfl) ?_
              refine JL_q (wants_none rfl) rfl (ex_fieldAddr fi_115_1 rfl rfl) ?_
              refine JL_q (wants_none rfl) rfl (ex_load_bx 5 ti_112 rfl rfl rfl) ?_
              refine JL_q (wants_none rfl) rfl (ex_len_ow 3 Try.underlying112 rfl rfl) ?_
              refine JL_q (wants_none rfl) rfl (ex_gtr rfl rfl) ?_
              refine JL_nil ?_
              refine N_then ?_
              refine J_if rfl (fun h90 => ?_) (fun h90 => ?_)
              · refine J_seq ?_
                refine J_region ?_
                refine JL_q (wants_none rfl) rfl (ex_assign rfl) ?_
                refine JL_q (wants_none rfl) rfl (ex_assign rfl) ?_
                refine JL_nil ?_
                refine N_then ?_
                refine J_ret ?_
                refine N_block_ret ?_
                refine N_then_ret ?_
                refine N_round_reti ?_
                refine N_then_ret ?_
                refine N_inl2 hK11 rfl (rv_tmp rfl) (rv_tmp rfl) ?_
                refine JL_q (wants_none rfl) rfl (ex_extract rfl rfl) ?_
                refine JL_q (wants_none rfl) rfl (ex_extract rfl rfl) ?_
                refine JL_q (wants_none rfl) rfl (ex_assign rfl) ?_
                refine JL_q (wants_none rfl) rfl (ex_assign rfl) ?_
                refine JL_nil ?_
                refine N_then ?_
                refine J_ret ?_
                refine N_inl2 hK6 rfl (rv_tmp rfl) (rv_tmp rfl) ?_
                refine JL_q (wants_none rfl) rfl (ex_extract rfl rfl) ?_
                refine JL_q (wants_none rfl) rfl (ex_extract rfl rfl) ?_
                refine JL_inline (wants_none rfl) rfl Try.call39 rfl Try.func39 rfl Try.ntmps39 rfl rfl (fun K_ hK91 => ?_)
                refine J_seq ?_
                refine J_region ?_
                refine JL_st (wants_none rfl) rfl (st_alloc zi_28 rfl) (fun b92 => ?_)
                refine JL_q (wants_none rfl) rfl (ex_assign rfl) ?_
                refine JL_nil ?_
                refine N_then ?_
                refine J_seq ?_
                refine J_seq ?_
                refine J_region ?_
                refine JL_q (wants_none rfl) rfl (ex_move rfl) ?_
                refine JL_q (wants_none rfl) rfl (ex_not rfl) ?_
                refine JL_nil ?_
                refine N_then ?_
                refine J_if_true rfl (by rw [show (false) = false from rfl]; rfl) ?_
                refine J_seq ?_
                refine J_region ?_
                refine JL_q (wants_none rfl) rfl (ex_build si_28 rfl .nil (fun w hh => trivial)) ?_
                refine JL_sk (wants_none rfl) (sk_store_bx' 0 ti_28 rfl rfl (fun w hh => (cv_aggs ⟨cv_int, cv_int, cv_slice, trivial⟩)) rfl rfl rfl rfl) ?_
                refine JL_q (wants_none rfl) rfl (ex_assign rfl) ?_
                refine JL_nil ?_
                refine N_then ?_
                refine J_ret ?_
                refine N_then_ret ?_
                refine N_inl2 hK91 rfl (rv_cell 0 rfl rfl ti_28 rfl) (rv_tmp rfl) ?_
                refine JL_q (wants_none rfl) rfl (ex_extract rfl rfl) ?_
                refine JL_q (wants_none rfl) rfl (ex_extract rfl rfl) ?_
                refine JL_sk (wants_none rfl) (sk_store_bx' 7 ti_28 rfl rfl (fun w hh => (cv_aggs ⟨cv_int, cv_int, cv_slice, trivial⟩)) rfl rfl rfl rfl) ?_
                refine JL_q (wants_none rfl) rfl (ex_assign rfl) ?_
                refine JL_nil ?_
                refine N_then ?_
                refine J_ret ?_
                refine N_ctx (fun w hh => SH.ow_nil (α := GRule) 97 hh) ?_
                exact N_ret2 rfl (rv_cell 8 rfl rfl ti_28 rfl) (rv_tmp rfl) (fun w hh => ⟨(.slice none 0 0 : Value), rfl, hh.sel [0] rfl⟩)
              · refine J_skip ?_
                refine N_block ?_
                refine N_then ?_
                refine J_region ?_
                refine JL_q (wants_none rfl) rfl (ex_move rfl) ?_
                refine JL_q (wants_none rfl) rfl (ex_add rfl rfl) ?_
                refine JL_q (wants_none rfl) rfl (ex_assign rfl) ?_
                refine JL_nil ?_
                exact N_next' (g40_0, g40_1) ⟨rfl, rfl, rfl, rfl, trivial⟩ [0, 1, 2, 3, 4, 5, 6] rfl rfl
          · refine J_exit ?_
            refine N_then_exit ?_
            exact N_break' (g37_0, g37_1) ⟨rfl, rfl, rfl, rfl, trivial⟩ [0, 1, 2, 3, 4, 5, 6] rfl rfl
        · obtain ⟨g37_0, g37_1⟩ := g37
          refine N_then ?_
          refine J_seq ?_
          refine J_region ?_
          refine JL_q (wants_none rfl) rfl (ex_move rfl) ?_
          refine JL_q (wants_none rfl) rfl (ex_move rfl) ?_
          refine JL_q (wants_none rfl) rfl (ex_nilCheck rfl) ?_
          refine JL_q (wants_none rfl) rfl (ex_fieldAddr fi_115_1 rfl rfl) ?_
          refine JL_q (wants_none rfl) rfl (ex_load_bx 5 ti_112 rfl rfl rfl) ?_
          refine JL_bnd fun r93 hr94 => ?_
          refine JL_call (wants_none rfl) rfl Try.call100 rfl (Ca_of0 fun w hh => c_impl_size_impl_foldPlace _ w (fun _ hk => hk.elim) _ _ (hh.ow0 3 rfl) _ hr94) (fun _ => ?_)
          refine JL_q (wants_none rfl) rfl (ex_nilCheck rfl) ?_
          refine JL_q (wants_none rfl) rfl (ex_fieldAddr fi_115_0 rfl rfl) ?_
          refine JL_q (wants_none rfl) rfl (ex_fieldAddr fi_28_1 rfl rfl) ?_
          refine JL_sk (wants_none rfl) (sk_store_bx' 5 ti_2 rfl rfl (fun w hh => cv_int) rfl rfl rfl rfl) ?_
          refine JL_nil ?_
          refine N_then ?_
          refine J_seq ?_
          refine J_region ?_
          refine JL_q (wants_none rfl) rfl (ex_move rfl) ?_
          refine JL_q (wants_none rfl) rfl (ex_assign rfl) ?_
          refine JL_q (wants_none rfl) rfl (ex_assign rfl) ?_
          refine JL_nil ?_
          refine N_then ?_
          refine J_ret ?_
          refine N_inl2 hK11 rfl (rv_tmp rfl) (rv_tmp rfl) ?_
          refine JL_q (wants_none rfl) rfl (ex_extract rfl rfl) ?_
          refine JL_q (wants_none rfl) rfl (ex_extract rfl rfl) ?_
          refine JL_q (wants_none rfl) rfl (ex_assign rfl) ?_
          refine JL_q (wants_none rfl) rfl (ex_assign rfl) ?_
          refine JL_nil ?_
          refine N_then ?_
          refine J_ret ?_
          refine N_inl2 hK6 rfl (rv_tmp rfl) (rv_tmp rfl) ?_
          refine JL_q (wants_none rfl) rfl (ex_extract rfl rfl) ?_
          refine JL_q (wants_none rfl) rfl (ex_extract rfl rfl) ?_
          refine JL_inline (wants_none rfl) rfl Try.call39 rfl Try.func39 rfl Try.ntmps39 rfl rfl (fun K_ hK95 => ?_)
          refine J_seq ?_
          refine J_region ?_
          refine JL_st (wants_none rfl) rfl (st_alloc zi_28 rfl) (fun b96 => ?_)
          refine JL_q (wants_none rfl) rfl (ex_assign rfl) ?_
          refine JL_nil ?_
          refine N_then ?_
          refine J_seq ?_
          refine J_seq ?_
          refine J_region ?_
          refine JL_q (wants_none rfl) rfl (ex_move rfl) ?_
          refine JL_q (wants_none rfl) rfl (ex_not rfl) ?_
          refine JL_nil ?_
          refine N_then ?_
          refine J_if_false rfl (by rw [show (true) = true from rfl]; rfl) ?_
          refine J_skip ?_
          refine N_then ?_
          refine J_seq ?_
          refine J_region ?_
          refine JL_q (wants_none rfl) rfl (ex_move rfl) ?_
          refine JL_q (wants_none rfl) rfl (ex_nilCheck rfl) ?_
          refine JL_q (wants_none rfl) rfl (ex_fieldAddr fi_115_0 rfl rfl) ?_
          refine JL_q (wants_none rfl) rfl (ex_load_bx_agg 6 ti_28 rfl rfl rfl rfl) ?_
          refine JL_sk (wants_none rfl) (sk_store_bx' 0 ti_28 rfl rfl (fun w hh => (cv_aggs ⟨cv_int, cv_int, (hh.cv_ow 3 rfl), trivial⟩)) rfl rfl rfl rfl) ?_
          refine JL_q (wants_none rfl) rfl (ex_assign rfl) ?_
          refine JL_nil ?_
          refine N_then ?_
          refine J_ret ?_
          refine N_inl2 hK95 rfl (rv_cell 0 rfl rfl ti_28 rfl) (rv_tmp rfl) ?_
          refine JL_q (wants_none rfl) rfl (ex_extract rfl rfl) ?_
          refine JL_q (wants_none rfl) rfl (ex_extract rfl rfl) ?_
          refine JL_sk (wants_none rfl) (sk_store_bx' 7 ti_28 rfl rfl (fun w hh => (cv_aggs ⟨cv_int, cv_int, (hh.cv_ow 3 rfl), trivial⟩)) rfl rfl rfl rfl) ?_
          refine JL_q (wants_none rfl) rfl (ex_assign rfl) ?_
          refine JL_nil ?_
          refine N_then ?_
          refine J_ret ?_
          exact N_ret2 rfl (rv_cell 7 rfl rfl ti_28 rfl) (rv_tmp rfl) (fun w hh => ⟨g37_0, rfl, hh.sel [3] rfl⟩)

end Go.Proofs.Ytceimgjcikkadaa
