/-
  Each function of the program computes what its plain function says: printed by program. No condition.
-/
import Derived.Test.YtceimgjcikkadaaFn
import Derived.Test.YtceimgjcikkadaaInf
import Derived.Test.YtceimgjcikkadaaCon1
import Derived.Test.YtceimgjcikkadaaCon2
import Derived.Test.YtceimgjcikkadaaCon3
namespace Go.Proofs.Ytceimgjcikkadaa
open Go Go.Tc Go.Fn
set_option linter.unusedVariables false

set_option maxHeartbeats 40000000 in
theorem c_spec_BinaryMachine (A : Nat → Prop) (w : World) (hA : ∀ k, A k → k < w.heap.size) (v0_ : Value) (p0 : GMachine) (hp0 : Rd A w v0_ p0) (r : GMachine × Int) (hr : F_spec_BinaryMachine p0 = some r) :
    Con Try.prog 9 [v0_] A w (fun x_ : Value => .tuple #[.agg #[.int .i64 r.1.Symbols, .int .i64 r.1.States, x_], .int .i64 r.2]) (fun x_ => [.ow 97 x_ r.1.Rules]) := by
  obtain ⟨v0_0, rfl, hp0_0⟩ := GMachine.open hp0
  refine Con_of (v := fun (r : GMachine × Int) (x_ : Value) => .tuple #[.agg #[.int .i64 r.1.Symbols, .int .i64 r.1.States, x_], .int .i64 r.2]) (fs := fun r x_ => [.ow 97 x_ r.1.Rules]) Try.func9 rfl Try.ntmps9 rfl ((SH.start hA).start_rd rfl hp0_0) rfl ?_ hr
  unfold F_spec_BinaryMachine
  refine J_seq ?_
  refine J_region ?_
  refine JL_st (wants_none rfl) rfl (st_box' rfl (fun w hh => (cv_aggs ⟨cv_int, cv_int, (hh.cv 0 rfl), trivial⟩))) (fun b1 => ?_)
  refine JL_st (wants_none rfl) rfl (st_alloc zi_28 rfl) (fun b2 => ?_)
  refine JL_q (wants_none rfl) rfl (ex_assign rfl) ?_
  refine JL_nil ?_
  refine N_then ?_
  refine J_seq ?_
  refine J_seq ?_
  refine J_region ?_
  refine JL_bnd fun r3 hr4 => ?_
  refine JL_call (wants_none rfl) rfl Try.call29 rfl (Ca_of0 fun w hh => c_spec_l05Is _ w (fun _ hk => hk.elim) _ _ (hh.bx_pa 1 rfl (GMachine.rdmk (Rd.mk_int _ _ _) (Rd.mk_int _ _ _) (hh.rd0 2 rfl)) rfl) _ hr4) (fun _ => ?_)
  refine JL_q (wants_none rfl) rfl (ex_not rfl) ?_
  refine JL_nil ?_
  refine N_then ?_
  refine J_if rfl (fun h5 => ?_) (fun h5 => ?_)
  · refine J_seq ?_
    refine J_region ?_
    refine JL_q (wants_none rfl) rfl (ex_build si_28 rfl .nil (fun w hh => trivial)) ?_
    refine JL_sk (wants_none rfl) (sk_store_bx' 0 ti_28 rfl rfl (fun w hh => (cv_aggs ⟨cv_int, cv_int, cv_slice, trivial⟩)) rfl rfl rfl rfl) ?_
    refine JL_q (wants_none rfl) rfl (ex_assign rfl) ?_
    refine JL_nil ?_
    refine N_then ?_
    refine J_ret ?_
    refine N_then_ret ?_
    refine N_ctx (fun w hh => SH.ow_nil (α := GRule) 97 hh) ?_
    exact N_ret2 rfl (rv_cell 1 rfl rfl ti_28 rfl) (rv_tmp rfl) (fun w hh => ⟨(.slice none 0 0 : Value), rfl, hh.sel [0] rfl⟩)
  · refine J_skip ?_
    refine N_then ?_
    refine J_seq ?_
    refine J_region ?_
    refine JL_inline (wants_none rfl) rfl Try.call30 rfl Try.func30 rfl Try.ntmps30 rfl rfl (fun K_ hK6 => ?_)
    refine J_seq ?_
    refine J_region ?_
    refine JL_q (wants_none rfl) rfl (ex_assign rfl) ?_
    refine JL_q (wants_none rfl) rfl (ex_assign rfl) ?_
    refine JL_nil ?_
    refine N_then ?_
    refine J_seq ?_
    refine J_region ?_
    refine JL_q (wants_none rfl) rfl (ex_move rfl) ?_
    refine JL_q (wants_none rfl) rfl (ex_build si_55 rfl (.cons fi_55_0 rfl rfl .nil) (fun w hh => ⟨cv_ptr, trivial⟩)) ?_
    refine JL_st (wants_none rfl) rfl (st_box' rfl (fun w hh => (cv_aggs ⟨cv_ptr, cv_ptr, cv_int, cv_slice, cv_int, cv_int, cv_slice, trivial⟩))) (fun b7 => ?_)
    refine JL_q (wants_none rfl) rfl (ex_assign rfl) ?_
    refine JL_nil ?_
    refine N_then ?_
    refine J_seq ?_
    refine J_region ?_
    refine JL_q (wants_none rfl) rfl (ex_move rfl) ?_
    refine JL_st (wants_none rfl) rfl (st_buildSlice (vs := [.int .i64 0, .int .i64 0, .int .i64 0, .int .i64 0]) ([0, 0, 0, 0] : List Int) Try.underlying35 ti_2 zi_2 rfl rfl rfl (fun w hh => ⟨(Rd.mk_int _ _ _), (Rd.mk_int _ _ _), (Rd.mk_int _ _ _), (Rd.mk_int _ _ _), trivial⟩)) (fun b8 => ?_)
    refine JL_inline (wants_none rfl) rfl Try.call67 rfl Try.func67 rfl Try.ntmps67 rfl rfl (fun K_ hK9 => ?_)
    refine J_seq ?_
    refine J_region ?_
    refine JL_q (wants_none rfl) rfl (ex_assign rfl) ?_
    refine JL_nil ?_
    refine N_then ?_
    refine J_seq ?_
    refine J_region ?_
    refine JL_q (wants_none rfl) rfl (ex_move rfl) ?_
    refine JL_q (wants_none rfl) rfl (ex_move rfl) ?_
    refine JL_ctx (fun w hh => hh.tokf 0 rfl rfl) ?_
    refine JL_st (wants_none rfl) rfl (st_buildSlice_od (vs := [(.slice (some ⟨b8, 0, none⟩) 4 4)]) (B := ((((.slice (some ⟨b8, 0, none⟩) 4 4) : Value).ownBlock.toList ++ []) ++ [])) ([([0, 0, 0, 0] : List Int)] : List (List Int)) [0] Try.underlying53 ti_35 zi_35 rfl rfl rfl rfl rfl (fun w hh => (dwv_cons (hh.dw 0 rfl) dwv_nil))) (fun b10 => ?_)
    refine JL_q (wants_none rfl) rfl (ex_nilCheck rfl) ?_
    refine JL_q (wants_none rfl) rfl (ex_fieldAddr fi_55_3 rfl rfl) ?_
    refine JL_sk (wants_none rfl) (sk_store_bx' 3 ti_53 rfl rfl (fun w hh => (hh.cv_od 0 rfl)) rfl rfl rfl rfl) ?_
    refine JL_nil ?_
    refine N_then ?_
    refine J_seq ?_
    refine J_region ?_
    refine JL_q (wants_none rfl) rfl (ex_move rfl) ?_
    refine JL_q (wants_none rfl) rfl (ex_move rfl) ?_
    refine JL_st (wants_none rfl) rfl (st_buildSlice (vs := []) ([] : List GRule) Try.underlying26 ti_97 zi_97 rfl rfl rfl (fun w hh => trivial)) (fun b11 => ?_)
    refine JL_q (wants_none rfl) rfl (ex_build si_28 rfl (.cons fi_28_0 rfl rfl (.cons fi_28_2 rfl rfl .nil)) (fun w hh => ⟨cv_int, (hh.cv_ow 0 rfl), trivial⟩)) ?_
    refine JL_q (wants_none rfl) rfl (ex_nilCheck rfl) ?_
    refine JL_q (wants_none rfl) rfl (ex_fieldAddr fi_55_4 rfl rfl) ?_
    refine JL_sk (wants_none rfl) (sk_store_bx' 4 ti_28 rfl rfl (fun w hh => (cv_aggs ⟨cv_int, cv_int, (hh.cv_ow 0 rfl), trivial⟩)) rfl rfl rfl rfl) ?_
    refine JL_nil ?_
    refine N_then ?_
    refine J_seq ?_
    refine J_seq ?_
    refine J_region ?_
    refine JL_q (wants_none rfl) rfl (ex_assign rfl) ?_
    refine JL_nil ?_
    refine N_then ?_
    refine J_loop' (S := (List (List Int)) × (List GRule) × Int) (G := Value × List Nat × Value) (F_spec_BinaryMachine_L1 p0) (fun s12 g13 => [(0, .pointer (some ⟨b7, 0, none⟩)), (1, .int .i64 2), (7, .int .i64 s12.2.2)]) (fun s12 g13 => [.rd v0_0 p0.Rules, .bx b1 28 [.int .i64 p0.Symbols, .int .i64 p0.States, v0_0], .od 35 g13.1 s12.1 g13.2.1, .ow 97 g13.2.2 s12.2.1, .bx b7 55 [.pointer (some ⟨b1, 0, none⟩), .pointer none, .int .i64 0, g13.1, .int .i64 2, .int .i64 0, g13.2.2], .bx b2 28 [.int .i64 0, .int .i64 0, .slice none 0 0]]) (([([0, 0, 0, 0] : List Int)] : List (List Int)), ([] : List GRule), 0) ((.slice (some ⟨b10, 0, none⟩) 1 1), ((((.slice (some ⟨b8, 0, none⟩) 4 4) : Value).ownBlock.toList ++ []) ++ []), (.slice (some ⟨b11, 0, none⟩) 0 0)) ⟨rfl, rfl, rfl, trivial⟩ [7, 6, 1, 0, 4, 5] rfl rfl (fun s12 g13 => ?_) (fun s12 g13 => ?_)
    · obtain ⟨g13_0, g13_1, g13_2⟩ := g13
      unfold F_spec_BinaryMachine_L1
      refine J_seq ?_
      refine J_seq ?_
      refine J_region ?_
      refine JL_q (wants_none rfl) rfl (ex_move rfl) ?_
      refine JL_q (wants_none rfl) rfl (ex_move rfl) ?_
      refine JL_q (wants_none rfl) rfl (ex_nilCheck rfl) ?_
      refine JL_q (wants_none rfl) rfl (ex_fieldAddr fi_55_3 rfl rfl) ?_
      refine JL_q (wants_none rfl) rfl (ex_load_bx 4 ti_53 rfl rfl rfl) ?_
      refine JL_q (wants_none rfl) rfl (ex_od 2 rfl (ex_len_ow 2 Try.underlying53 rfl rfl)) ?_
      refine JL_q (wants_none rfl) rfl (ex_lss rfl rfl) ?_
      refine JL_nil ?_
      refine N_then ?_
      refine J_if rfl (fun h14 => ?_) (fun h14 => ?_)
      · refine J_skip ?_
        refine N_then ?_
        refine J_seq ?_
        refine J_block ?_
        refine J_seq ?_
        refine J_region ?_
        refine JL_q (wants_none rfl) rfl (ex_assign rfl) ?_
        refine JL_nil ?_
        refine N_then ?_
        refine J_loop' (S := (List (List Int)) × (List GRule) × Int) (G := Value × List Nat × Value) (F_spec_BinaryMachine_L2 p0 s12) (fun s15 g16 => [(0, .pointer (some ⟨b7, 0, none⟩)), (1, .int .i64 2), (7, .int .i64 s12.2.2), (8, .int .i64 s15.2.2)]) (fun s15 g16 => [.rd v0_0 p0.Rules, .bx b1 28 [.int .i64 p0.Symbols, .int .i64 p0.States, v0_0], .od 35 g16.1 s15.1 g16.2.1, .ow 97 g16.2.2 s15.2.1, .bx b7 55 [.pointer (some ⟨b1, 0, none⟩), .pointer none, .int .i64 0, g16.1, .int .i64 2, .int .i64 0, g16.2.2], .bx b2 28 [.int .i64 0, .int .i64 0, .slice none 0 0]]) (s12.1, s12.2.1, 0) (g13_0, g13_1, g13_2) ⟨rfl, rfl, rfl, rfl, trivial⟩ [0, 1, 2, 3, 4, 5] rfl rfl (fun s15 g16 => ?_) (fun s15 g16 => ?_)
        · obtain ⟨g16_0, g16_1, g16_2⟩ := g16
          unfold F_spec_BinaryMachine_L2
          refine J_seq ?_
          refine J_seq ?_
          refine J_region ?_
          refine JL_q (wants_none rfl) rfl (ex_move rfl) ?_
          refine JL_q (wants_none rfl) rfl (ex_move rfl) ?_
          refine JL_q (wants_none rfl) rfl (ex_lss rfl rfl) ?_
          refine JL_nil ?_
          refine N_then ?_
          refine J_if rfl (fun h17 => ?_) (fun h17 => ?_)
          · refine J_skip ?_
            refine N_then ?_
            refine J_seq ?_
            refine J_block ?_
            refine J_seq ?_
            refine J_region ?_
            refine JL_q (wants_none rfl) rfl (ex_move rfl) ?_
            refine JL_q (wants_none rfl) rfl (ex_move rfl) ?_
            refine JL_q (wants_none rfl) rfl (ex_nilCheck rfl) ?_
            refine JL_q (wants_none rfl) rfl (ex_fieldAddr fi_55_3 rfl rfl) ?_
            refine JL_q (wants_none rfl) rfl (ex_load_bx 4 ti_53 rfl rfl rfl) ?_
            refine JL_q (wants_none rfl) rfl (ex_move rfl) ?_
            refine JL_bnd fun y18 hy19 => ?_
            refine JL_od_open (v := g16_0) 2 rfl hy19 ?_; rintro b20 cap21 rfl
            refine JL_q (wants_none rfl) rfl (ex_od 2 rfl (ex_index_ow 2 Try.underlying53 ti_35 rfl rfl rfl hy19)) ?_
            refine JL_st (wants_none rfl) rfl (st_od 2 rfl (st_load_ow_o 2 (opens_sl _) ti_35 rfl rfl hy19) (fun _ => rfl)) (fun v22 => ?_)
            refine JL_q (wants_none rfl) rfl (ex_move rfl) ?_
            refine JL_inline (wants_none rfl) rfl Try.call93 rfl Try.func93 rfl Try.ntmps93 rfl rfl (fun K_ hK23 => ?_)
            refine J_seq ?_
            refine J_region ?_
            refine JL_st (wants_none rfl) rfl (st_alloc zi_129 rfl) (fun b24 => ?_)
            refine JL_nil ?_
            refine N_then ?_
            refine J_seq ?_
            refine J_seq ?_
            refine J_region ?_
            refine JL_q (wants_none rfl) rfl (ex_move rfl) ?_
            refine JL_q (wants_none rfl) rfl (ex_nilCheck rfl) ?_
            refine JL_q (wants_none rfl) rfl (ex_fieldAddr fi_55_2 rfl rfl) ?_
            refine JL_q (wants_none rfl) rfl (ex_load_bx 6 ti_2 rfl rfl rfl) ?_
            refine JL_nil ?_
            refine N_then ?_
            refine J_block ?_
            refine J_seq ?_
            refine J_region ?_
            refine JL_q (wants_none rfl) rfl (ex_eql rfl rfl) ?_
            refine JL_q (wants_none rfl) rfl (ex_assign rfl) ?_
            refine JL_nil ?_
            refine N_then ?_
            refine J_if_false rfl (by decide) ?_
            refine J_seq ?_
            refine J_region ?_
            refine JL_q (wants_none rfl) rfl (ex_eql rfl rfl) ?_
            refine JL_q (wants_none rfl) rfl (ex_assign rfl) ?_
            refine JL_nil ?_
            refine N_then ?_
            refine J_if_false rfl (by decide) ?_
            refine J_skip ?_
            refine N_block ?_
            refine N_then ?_
            refine J_seq ?_
            refine J_region ?_
            refine JL_q (wants_none rfl) rfl (ex_move rfl) ?_
            refine JL_q (wants_none rfl) rfl (ex_nilCheck rfl) ?_
            refine JL_q (wants_none rfl) rfl (ex_fieldAddr fi_55_0 rfl rfl) ?_
            refine JL_q (wants_none rfl) rfl (ex_load_bx 6 ti_48 rfl rfl rfl) ?_
            refine JL_q (wants_none rfl) rfl (ex_move rfl) ?_
            refine JL_q (wants_none rfl) rfl (ex_move rfl) ?_
            refine JL_bnd fun r25 hr26 => ?_
            refine JL_call (wants_none rfl) rfl Try.call108 rfl (Ca_self (fun _ => rfl) fun w hh => c_spec_l13Binary _ w (fun _ hk => hk.elim) _ _ (hh.bx_pa 3 rfl (GMachine.rdmk (Rd.mk_int _ _ _) (Rd.mk_int _ _ _) (hh.rd0 2 rfl)) rfl) _ _ (hh.rd0 1 rfl) _ _ hr26) (fun x27 => ?_)
            obtain ⟨x27_0, x27_1⟩ := x27
            refine JL_ctx (fun w hh => hh.tkn_rd 0 rfl) ?_
            refine JL_sk (wants_none rfl) (sk_store_bx' 2 ti_129 rfl rfl (fun w hh => (cv_aggs ⟨cv_bool, cv_int, cv_int, (hh.cv 0 rfl), trivial⟩)) rfl rfl rfl rfl) ?_
            refine JL_nil ?_
            refine N_then ?_
            refine J_ret ?_
            refine N_inl1 hK23 rfl (rv_cell 2 rfl rfl ti_129 rfl) ?_
            refine JL_st (wants_none rfl) rfl (st_alloc zi_129 rfl) (fun b28 => ?_)
            refine JL_sk (wants_none rfl) (sk_store_bx' 0 ti_129 rfl rfl (fun w hh => (cv_aggs ⟨cv_bool, cv_int, cv_int, (hh.cv 1 rfl), trivial⟩)) rfl rfl rfl rfl) ?_
            refine JL_nil ?_
            refine N_then ?_
            refine J_seq ?_
            refine J_seq ?_
            refine J_region ?_
            refine JL_q (wants_none rfl) rfl (ex_fieldAddr fi_129_0 rfl rfl) ?_
            refine JL_q (wants_none rfl) rfl (ex_load_bx 0 ti_4 rfl rfl rfl) ?_
            refine JL_q (wants_none rfl) rfl (ex_not rfl) ?_
            refine JL_nil ?_
            refine N_then ?_
            refine J_if rfl (fun h29 => ?_) (fun h29 => ?_)
            · refine J_seq ?_
              refine J_cut' (S' := (List GRule)) (G' := Value) (fun s30 g31 => [(0, .pointer (some ⟨b7, 0, none⟩)), (1, .int .i64 2), (7, .int .i64 s12.2.2), (8, .int .i64 s15.2.2)]) (fun s30 g31 => [.rd v0_0 p0.Rules, .bx b1 28 [.int .i64 p0.Symbols, .int .i64 p0.States, v0_0], .od 35 (.slice (some ⟨b20, 0, none⟩) s15.1.length cap21) s15.1 g16_1, .ow 97 g31 s30, .bx b7 55 [.pointer (some ⟨b1, 0, none⟩), .pointer none, .int .i64 0, (.slice (some ⟨b20, 0, none⟩) s15.1.length cap21), .int .i64 2, .int .i64 0, g31], .bx b2 28 [.int .i64 0, .int .i64 0, .slice none 0 0]]) ?_ (fun s30 g31 => ?_)
              · refine J_draw [8, 9] (by kernel_rfl) ?_
                refine JP_take (i := 0) [0, 1, 2, 3, 4, 5, 6, 7, 10] [8, 9] rfl (by kernel_rfl) (by kernel_rfl) (by kernel_rfl) rfl rfl (wants_none rfl) rfl (ex_move rfl) ?_
                refine JP_take (i := 1) [0, 1, 2, 3, 4, 5, 6, 7, 10] [8, 9] rfl (by kernel_rfl) (by kernel_rfl) (by kernel_rfl) rfl rfl (wants_none rfl) rfl (ex_move rfl) ?_
                refine JP_take (i := 2) [0, 1, 2, 3, 4, 5, 6, 7, 10] [8, 9] rfl (by kernel_rfl) (by kernel_rfl) (by kernel_rfl) rfl rfl (wants_none rfl) rfl (ex_nilCheck rfl) ?_
                refine JP_take (i := 3) [0, 1, 2, 3, 4, 5, 6, 7, 10] [8, 9] rfl (by kernel_rfl) (by kernel_rfl) (by kernel_rfl) rfl rfl (wants_none rfl) rfl (ex_fieldAddr fi_55_4 rfl rfl) ?_
                refine JP_take (i := 4) [0, 1, 2, 3, 4, 5, 6, 7, 10] [8, 9] rfl (by kernel_rfl) (by kernel_rfl) (by kernel_rfl) rfl rfl (wants_none rfl) rfl (ex_fieldAddr fi_28_2 rfl rfl) ?_
                refine JP_go [0, 1, 2, 3, 4, 5, 6, 7, 10] [8, 9] rfl rfl rfl (fun w33 h1_34 hp32 => ?_)
                refine JD_bnd fun r35 hr36 => ?_
                refine JD_two (i := 5) (j := 6) (by kernel_rfl) ?_ ?_
                · refine JO_q rfl (wants_none rfl) rfl (ex_load_bx 9 ti_26 rfl rfl rfl) ?_
                  refine JD_one (i := 6) (by kernel_rfl) ?_
                  refine JO_call rfl (wants_none rfl) rfl Try.call92 rfl (Ca_of0 fun w hh => c_spec_l05None _ w (fun _ hk => hk.elim)  _ hr36) (fun _ => ?_)
                  refine JD_one (i := 7) (by kernel_rfl) ?_
                  refine JO_st rfl (wants_none rfl) rfl (st_buildSlice (vs := [.agg #[.int .i64 r35.Write, .int .i64 r35.Move, .int .i64 r35.Next]]) ([r35] : List GRule) Try.underlying26 ti_97 zi_97 rfl rfl rfl (fun w hh => ⟨(GRule.rdmk (Rd.mk_int _ _ _) (Rd.mk_int _ _ _) (Rd.mk_int _ _ _)), trivial⟩)) (fun _ hk => nomatch hk) (fun b37 => ?_)
                  refine JD_bnd fun z38 hz39 => ?_
                  refine JD_one (i := 8) (by kernel_rfl) ?_
                  refine JO_st rfl (wants_none rfl) rfl (st_append 9 Try.underlying26 ti_97 zi_97 rfl bi_97 rfl rfl rfl rfl (fun w hh => hh.src_ow 0 rfl) hz39) (sub_ow 0 rfl) (fun v40 => ?_)
                  refine JD_take (i := 9) hp32 rfl (by kernel_rfl) (by kernel_rfl) (by kernel_rfl) (wants_none rfl) rfl (ex_nilCheck rfl) ?_
                  refine JD_take (i := 10) hp32 rfl (by kernel_rfl) (by kernel_rfl) (by kernel_rfl) (wants_none rfl) rfl (ex_fieldAddr fi_55_4 rfl rfl) ?_
                  refine JD_take (i := 11) hp32 rfl (by kernel_rfl) (by kernel_rfl) (by kernel_rfl) (wants_none rfl) rfl (ex_fieldAddr fi_28_2 rfl rfl) ?_
                  refine JD_one (i := 12) (by kernel_rfl) ?_
                  refine JO_sk rfl (wants_none rfl) (sk_store_bx' 10 ti_26 rfl rfl (fun w hh => (hh.cv_ow 9 rfl)) rfl rfl rfl rfl) (sub_bx 1 rfl) ?_
                  refine JD_done (by kernel_rfl) ?_
                  exact N_meet' v40 ⟨rfl, rfl, rfl, rfl, trivial⟩ [6, 7, 8, 9, 10, 11] rfl rfl
                · refine JO_call rfl (wants_none rfl) rfl Try.call92 rfl (Ca_of0 fun w hh => c_spec_l05None _ w (fun _ hk => hk.elim)  _ hr36) (fun _ => ?_)
                  refine JD_two (i := 5) (j := 7) (by kernel_rfl) ?_ ?_
                  · refine JO_q rfl (wants_none rfl) rfl (ex_load_bx 9 ti_26 rfl rfl rfl) ?_
                    refine JD_one (i := 7) (by kernel_rfl) ?_
                    refine JO_st rfl (wants_none rfl) rfl (st_buildSlice (vs := [.agg #[.int .i64 r35.Write, .int .i64 r35.Move, .int .i64 r35.Next]]) ([r35] : List GRule) Try.underlying26 ti_97 zi_97 rfl rfl rfl (fun w hh => ⟨(GRule.rdmk (Rd.mk_int _ _ _) (Rd.mk_int _ _ _) (Rd.mk_int _ _ _)), trivial⟩)) (fun _ hk => nomatch hk) (fun b41 => ?_)
                    refine JD_bnd fun z42 hz43 => ?_
                    refine JD_one (i := 8) (by kernel_rfl) ?_
                    refine JO_st rfl (wants_none rfl) rfl (st_append 9 Try.underlying26 ti_97 zi_97 rfl bi_97 rfl rfl rfl rfl (fun w hh => hh.src_ow 0 rfl) hz43) (sub_ow 0 rfl) (fun v44 => ?_)
                    refine JD_take (i := 9) hp32 rfl (by kernel_rfl) (by kernel_rfl) (by kernel_rfl) (wants_none rfl) rfl (ex_nilCheck rfl) ?_
                    refine JD_take (i := 10) hp32 rfl (by kernel_rfl) (by kernel_rfl) (by kernel_rfl) (wants_none rfl) rfl (ex_fieldAddr fi_55_4 rfl rfl) ?_
                    refine JD_take (i := 11) hp32 rfl (by kernel_rfl) (by kernel_rfl) (by kernel_rfl) (wants_none rfl) rfl (ex_fieldAddr fi_28_2 rfl rfl) ?_
                    refine JD_one (i := 12) (by kernel_rfl) ?_
                    refine JO_sk rfl (wants_none rfl) (sk_store_bx' 10 ti_26 rfl rfl (fun w hh => (hh.cv_ow 9 rfl)) rfl rfl rfl rfl) (sub_bx 1 rfl) ?_
                    refine JD_done (by kernel_rfl) ?_
                    exact N_meet' v44 ⟨rfl, rfl, rfl, rfl, trivial⟩ [6, 7, 8, 9, 10, 11] rfl rfl
                  · refine JO_st rfl (wants_none rfl) rfl (st_buildSlice (vs := [.agg #[.int .i64 r35.Write, .int .i64 r35.Move, .int .i64 r35.Next]]) ([r35] : List GRule) Try.underlying26 ti_97 zi_97 rfl rfl rfl (fun w hh => ⟨(GRule.rdmk (Rd.mk_int _ _ _) (Rd.mk_int _ _ _) (Rd.mk_int _ _ _)), trivial⟩)) (fun _ hk => nomatch hk) (fun b45 => ?_)
                    refine JD_one (i := 5) (by kernel_rfl) ?_
                    refine JO_q rfl (wants_none rfl) rfl (ex_load_bx 10 ti_26 rfl rfl rfl) ?_
                    refine JD_bnd fun z46 hz47 => ?_
                    refine JD_one (i := 8) (by kernel_rfl) ?_
                    refine JO_st rfl (wants_none rfl) rfl (st_append 9 Try.underlying26 ti_97 zi_97 rfl bi_97 rfl rfl rfl rfl (fun w hh => hh.src_ow 0 rfl) hz47) (sub_ow 0 rfl) (fun v48 => ?_)
                    refine JD_take (i := 9) hp32 rfl (by kernel_rfl) (by kernel_rfl) (by kernel_rfl) (wants_none rfl) rfl (ex_nilCheck rfl) ?_
                    refine JD_take (i := 10) hp32 rfl (by kernel_rfl) (by kernel_rfl) (by kernel_rfl) (wants_none rfl) rfl (ex_fieldAddr fi_55_4 rfl rfl) ?_
                    refine JD_take (i := 11) hp32 rfl (by kernel_rfl) (by kernel_rfl) (by kernel_rfl) (wants_none rfl) rfl (ex_fieldAddr fi_28_2 rfl rfl) ?_
                    refine JD_one (i := 12) (by kernel_rfl) ?_
                    refine JO_sk rfl (wants_none rfl) (sk_store_bx' 10 ti_26 rfl rfl (fun w hh => (hh.cv_ow 9 rfl)) rfl rfl rfl rfl) (sub_bx 1 rfl) ?_
                    refine JD_done (by kernel_rfl) ?_
                    exact N_meet' v48 ⟨rfl, rfl, rfl, rfl, trivial⟩ [6, 7, 8, 9, 10, 11] rfl rfl
              · refine N_then ?_
                refine J_exit ?_
                refine N_then_exit ?_
                refine N_block_exit ?_
                refine N_then ?_
                refine J_region ?_
                refine JL_q (wants_none rfl) rfl (ex_move rfl) ?_
                refine JL_q (wants_none rfl) rfl (ex_add rfl rfl) ?_
                refine JL_q (wants_none rfl) rfl (ex_assign rfl) ?_
                refine JL_nil ?_
                exact N_next' ((.slice (some ⟨b20, 0, none⟩) s15.1.length cap21), g16_1, g31) ⟨rfl, rfl, rfl, rfl, trivial⟩ [0, 1, 2, 3, 4, 5] rfl rfl
            · refine J_skip ?_
              refine N_then ?_
              refine J_seq ?_
              refine J_region ?_
              refine JL_q (wants_none rfl) rfl (ex_move rfl) ?_
              refine JL_q (wants_none rfl) rfl (ex_fieldAddr fi_129_3 rfl rfl) ?_
              refine JL_q (wants_none rfl) rfl (ex_load_bx 0 ti_35 rfl rfl rfl) ?_
              refine JL_inline (wants_none rfl) rfl Try.call43 rfl Try.func43 rfl Try.ntmps43 rfl rfl (fun K_ hK49 => ?_)
              refine J_seq ?_
              refine J_region ?_
              refine JL_q (wants_none rfl) rfl (ex_assign rfl) ?_
              refine JL_nil ?_
              refine N_then ?_
              refine J_seq ?_
              refine J_seq ?_
              refine J_region ?_
              refine JL_q (wants_none rfl) rfl (ex_assign rfl) ?_
              refine JL_nil ?_
              refine N_then ?_
              refine J_loop' (S := Int) (G := Unit) (F_spec_BinaryMachine_L3 s15 r25) (fun s50 _ => [(0, .pointer (some ⟨b7, 0, none⟩)), (1, x27_0), (5, .int .i64 s50)]) (fun s50 _ => [.rd v0_0 p0.Rules, .bx b1 28 [.int .i64 p0.Symbols, .int .i64 p0.States, v0_0], .od 35 (.slice (some ⟨b20, 0, none⟩) s15.1.length cap21) s15.1 g16_1, .ow 97 g16_2 s15.2.1, .bx b7 55 [.pointer (some ⟨b1, 0, none⟩), .pointer none, .int .i64 0, (.slice (some ⟨b20, 0, none⟩) s15.1.length cap21), .int .i64 2, .int .i64 0, g16_2], .rd x27_0 r25.next, .tkn x27_0 r25.next x27_1, .bx b2 28 [.int .i64 0, .int .i64 0, .slice none 0 0], .bx b28 129 [.bool r25.ok, .int .i64 r25.write, .int .i64 r25.move, x27_0]]) 0 () ⟨rfl, rfl, rfl, trivial⟩ [5, 6, 7, 8, 9, 1, 2, 10, 0] rfl rfl (fun s50 g51 => ?_) (fun s50 g51 => ?_)
              · unfold F_spec_BinaryMachine_L3
                refine J_seq ?_
                refine J_seq ?_
                refine J_region ?_
                refine JL_q (wants_none rfl) rfl (ex_move rfl) ?_
                refine JL_q (wants_none rfl) rfl (ex_move rfl) ?_
                refine JL_q (wants_none rfl) rfl (ex_nilCheck rfl) ?_
                refine JL_q (wants_none rfl) rfl (ex_fieldAddr fi_55_3 rfl rfl) ?_
                refine JL_q (wants_none rfl) rfl (ex_load_bx 4 ti_53 rfl rfl rfl) ?_
                refine JL_q (wants_none rfl) rfl (ex_od 2 rfl (ex_len_ow 2 Try.underlying53 rfl rfl)) ?_
                refine JL_q (wants_none rfl) rfl (ex_lss rfl rfl) ?_
                refine JL_nil ?_
                refine N_then ?_
                refine J_if rfl (fun h52 => ?_) (fun h52 => ?_)
                · refine J_skip ?_
                  refine N_then ?_
                  refine J_seq ?_
                  refine J_block ?_
                  refine J_seq ?_
                  refine J_region ?_
                  refine JL_q (wants_none rfl) rfl (ex_move rfl) ?_
                  refine JL_q (wants_none rfl) rfl (ex_nilCheck rfl) ?_
                  refine JL_q (wants_none rfl) rfl (ex_fieldAddr fi_55_3 rfl rfl) ?_
                  refine JL_q (wants_none rfl) rfl (ex_load_bx 4 ti_53 rfl rfl rfl) ?_
                  refine JL_q (wants_none rfl) rfl (ex_move rfl) ?_
                  refine JL_bnd fun y53 hy54 => ?_
                  refine JL_q (wants_none rfl) rfl (ex_od 2 rfl (ex_index_ow 2 Try.underlying53 ti_35 rfl rfl rfl hy54)) ?_
                  refine JL_st (wants_none rfl) rfl (st_od 2 rfl (st_load_ow_o 2 (opens_sl _) ti_35 rfl rfl hy54) (fun _ => rfl)) (fun v55 => ?_)
                  refine JL_q (wants_none rfl) rfl (ex_move rfl) ?_
                  refine JL_bnd fun r56 hr57 => ?_
                  refine JL_call (wants_none rfl) rfl Try.call83 rfl (Ca_of0 fun w hh => c_spec_l00Same _ w (fun _ hk => hk.elim) _ _ (hh.rd0 0 rfl) _ _ (hh.rd0 6 rfl) _ hr57) (fun _ => ?_)
                  refine JL_nil ?_
                  refine N_then ?_
                  refine J_if rfl (fun h58 => ?_) (fun h58 => ?_)
                  · refine J_seq ?_
                    refine J_region ?_
                    refine JL_q (wants_none rfl) rfl (ex_move rfl) ?_
                    refine JL_q (wants_none rfl) rfl (ex_assign rfl) ?_
                    refine JL_nil ?_
                    refine N_then ?_
                    refine J_ret ?_
                    refine N_block_ret ?_
                    refine N_then_ret ?_
                    refine N_round_reti ?_
                    refine N_then_ret ?_
                    refine N_inl1 hK49 rfl (rv_tmp rfl) ?_
                    refine JL_q (wants_none rfl) rfl (ex_assign rfl) ?_
                    refine JL_nil ?_
                    refine N_then ?_
                    refine J_seq ?_
                    refine J_cut' (S' := (List (List Int)) × Int) (G' := Value × List Nat) (fun s59 g60 => [(0, .pointer (some ⟨b7, 0, none⟩)), (1, .int .i64 2), (7, .int .i64 s12.2.2), (8, .int .i64 s15.2.2), (9, .pointer (some ⟨b28, 0, none⟩)), (10, .int .i64 s59.2)]) (fun s59 g60 => [.rd v0_0 p0.Rules, .bx b1 28 [.int .i64 p0.Symbols, .int .i64 p0.States, v0_0], .od 35 g60.1 s59.1 g60.2, .ow 97 g16_2 s15.2.1, .bx b7 55 [.pointer (some ⟨b1, 0, none⟩), .pointer none, .int .i64 0, g60.1, .int .i64 2, .int .i64 0, g16_2], .rd x27_0 r25.next, .bx b28 129 [.bool r25.ok, .int .i64 r25.write, .int .i64 r25.move, x27_0], .bx b2 28 [.int .i64 0, .int .i64 0, .slice none 0 0]]) ?_ (fun s59 g60 => ?_)
                    · refine J_seq ?_
                      refine J_region ?_
                      refine JL_q (wants_none rfl) rfl (ex_move rfl) ?_
                      refine JL_q (wants_none rfl) rfl (ex_lss rfl rfl) ?_
                      refine JL_nil ?_
                      refine N_then ?_
                      refine J_if rfl (fun h61 => ?_) (fun h61 => ?_)
                      · refine J_seq ?_
                        refine J_seq ?_
                        refine J_region ?_
                        refine JL_q (wants_none rfl) rfl (ex_move rfl) ?_
                        refine JL_q (wants_none rfl) rfl (ex_nilCheck rfl) ?_
                        refine JL_q (wants_none rfl) rfl (ex_fieldAddr fi_55_3 rfl rfl) ?_
                        refine JL_q (wants_none rfl) rfl (ex_load_bx 5 ti_53 rfl rfl rfl) ?_
                        refine JL_q (wants_none rfl) rfl (ex_od 3 rfl (ex_len_ow 3 Try.underlying53 rfl rfl)) ?_
                        refine JL_q (wants_none rfl) rfl (ex_eql rfl rfl) ?_
                        refine JL_nil ?_
                        refine N_then ?_
                        refine J_if rfl (fun h62 => ?_) (fun h62 => ?_)
                        · refine J_seq ?_
                          refine J_region ?_
                          refine JL_q (wants_none rfl) rfl (ex_assign rfl) ?_
                          refine JL_nil ?_
                          refine N_then ?_
                          refine J_ret ?_
                          refine N_then_ret ?_
                          refine N_mid_ret ?_
                          refine N_then_ret ?_
                          refine N_block_ret ?_
                          refine N_then_ret ?_
                          refine N_round_ret ?_
                          refine N_block_ret ?_
                          refine N_then_ret ?_
                          refine N_round_reti ?_
                          refine N_then_ret ?_
                          refine N_inl1 hK9 rfl (rv_tmp rfl) ?_
                          refine JL_q (wants_none rfl) rfl (ex_assign rfl) ?_
                          refine JL_nil ?_
                          refine N_then ?_
                          refine J_seq ?_
                          refine J_region ?_
                          refine JL_q (wants_none rfl) rfl (ex_move rfl) ?_
                          refine JL_q (wants_none rfl) rfl (ex_move rfl) ?_
                          refine JL_q (wants_none rfl) rfl (ex_assign rfl) ?_
                          refine JL_q (wants_none rfl) rfl (ex_assign rfl) ?_
                          refine JL_nil ?_
                          refine N_then ?_
                          refine J_ret ?_
                          refine N_inl2 hK6 rfl (rv_tmp rfl) (rv_tmp rfl) ?_
                          refine JL_q (wants_none rfl) rfl (ex_move rfl) ?_
                          refine JL_q (wants_none rfl) rfl (ex_extract rfl rfl) ?_
                          refine JL_q (wants_none rfl) rfl (ex_extract rfl rfl) ?_
                          refine JL_q (wants_none rfl) rfl (ex_assign rfl) ?_
                          refine JL_q (wants_none rfl) rfl (ex_assign rfl) ?_
                          refine JL_nil ?_
                          refine N_then ?_
                          refine J_seq ?_
                          refine J_seq ?_
                          refine J_region ?_
                          refine JL_q (wants_none rfl) rfl (ex_move rfl) ?_
                          refine JL_q (wants_none rfl) rfl (ex_not rfl) ?_
                          refine JL_nil ?_
                          refine N_then ?_
                          refine J_if_true rfl (by rw [show (false) = false from rfl]; rfl) ?_
                          refine J_seq ?_
                          refine J_region ?_
                          refine JL_q (wants_none rfl) rfl (ex_build si_28 rfl .nil (fun w hh => trivial)) ?_
                          refine JL_sk (wants_none rfl) (sk_store_bx' 8 ti_28 rfl rfl (fun w hh => (cv_aggs ⟨cv_int, cv_int, cv_slice, trivial⟩)) rfl rfl rfl rfl) ?_
                          refine JL_q (wants_none rfl) rfl (ex_assign rfl) ?_
                          refine JL_nil ?_
                          refine N_then ?_
                          refine J_ret ?_
                          refine N_then_ret ?_
                          refine N_ctx (fun w hh => SH.ow_nil (α := GRule) 97 hh) ?_
                          exact N_ret2 rfl (rv_cell 9 rfl rfl ti_28 rfl) (rv_tmp rfl) (fun w hh => ⟨(.slice none 0 0 : Value), rfl, hh.sel [0] rfl⟩)
                        · refine J_skip ?_
                          refine N_then ?_
                          refine J_seq ?_
                          refine J_region ?_
                          refine JL_q (wants_none rfl) rfl (ex_move rfl) ?_
                          refine JL_q (wants_none rfl) rfl (ex_nilCheck rfl) ?_
                          refine JL_q (wants_none rfl) rfl (ex_fieldAddr fi_55_3 rfl rfl) ?_
                          refine JL_q (wants_none rfl) rfl (ex_load_bx 5 ti_53 rfl rfl rfl) ?_
                          refine JL_q (wants_none rfl) rfl (ex_od 3 rfl (ex_len_ow 3 Try.underlying53 rfl rfl)) ?_
                          refine JL_q (wants_none rfl) rfl (ex_assign rfl) ?_
                          refine JL_nil ?_
                          refine N_then ?_
                          refine J_draw [3, 5] (by kernel_rfl) ?_
                          refine JP_take (i := 0) [0, 1, 2, 4, 6, 7, 8, 9] [3, 5] rfl (by kernel_rfl) (by kernel_rfl) (by kernel_rfl) rfl rfl (wants_none rfl) rfl (ex_move rfl) ?_
                          refine JP_take (i := 1) [0, 1, 2, 4, 6, 7, 8, 9] [3, 5] rfl (by kernel_rfl) (by kernel_rfl) (by kernel_rfl) rfl rfl (wants_none rfl) rfl (ex_move rfl) ?_
                          refine JP_take (i := 2) [0, 1, 2, 4, 6, 7, 8, 9] [3, 5] rfl (by kernel_rfl) (by kernel_rfl) (by kernel_rfl) rfl rfl (wants_none rfl) rfl (ex_nilCheck rfl) ?_
                          refine JP_take (i := 3) [0, 1, 2, 4, 6, 7, 8, 9] [3, 5] rfl (by kernel_rfl) (by kernel_rfl) (by kernel_rfl) rfl rfl (wants_none rfl) rfl (ex_fieldAddr fi_55_3 rfl rfl) ?_
                          refine JP_take (i := 5) [0, 1, 2, 4, 6, 7, 8, 9] [3, 5] rfl (by kernel_rfl) (by kernel_rfl) (by kernel_rfl) rfl rfl (wants_none rfl) rfl (ex_fieldAddr fi_129_3 rfl rfl) ?_
                          refine JP_take (i := 6) [0, 1, 2, 4, 6, 7, 8, 9] [3, 5] rfl (by kernel_rfl) (by kernel_rfl) (by kernel_rfl) rfl rfl (wants_none rfl) rfl (ex_load_bx 7 ti_35 rfl rfl rfl) ?_
                          refine JP_go [0, 1, 2, 4, 6, 7, 8, 9] [3, 5] rfl rfl rfl (fun w64 h1_65 hp63 => ?_)
                          refine JD_two (i := 4) (j := 7) (by kernel_rfl) ?_ ?_
                          · refine JO_q rfl (wants_none rfl) rfl (ex_load_bx 5 ti_53 rfl rfl rfl) ?_
                            refine JD_one (i := 7) (by kernel_rfl) ?_
                            refine JO_st rfl (wants_none rfl) rfl (st_buildSlice_od (vs := [x27_0]) (B := (x27_1 ++ [])) ([r25.next] : List (List Int)) [7] Try.underlying53 ti_35 zi_35 rfl rfl rfl rfl rfl (fun w hh => (dwv_cons (hh.dw 7 rfl) dwv_nil))) (fun _ hk => nomatch hk) (fun b66 => ?_)
                            refine JD_bnd fun z67 hz68 => ?_
                            refine JD_one (i := 8) (by kernel_rfl) ?_
                            refine JO_st rfl (wants_none rfl) rfl (st_append_od 4 0 Try.underlying53 ti_35 zi_35 rfl bi_35 rfl rfl rfl rfl rfl rfl hz68) (sub_od 0 rfl) (fun v69 => ?_)
                            refine JD_take (i := 9) hp63 rfl (by kernel_rfl) (by kernel_rfl) (by kernel_rfl) (wants_none rfl) rfl (ex_nilCheck rfl) ?_
                            refine JD_take (i := 10) hp63 rfl (by kernel_rfl) (by kernel_rfl) (by kernel_rfl) (wants_none rfl) rfl (ex_fieldAddr fi_55_3 rfl rfl) ?_
                            refine JD_one (i := 11) (by kernel_rfl) ?_
                            refine JO_sk rfl (wants_none rfl) (sk_store_bx' 6 ti_53 rfl rfl (fun w hh => (hh.cv_od 4 rfl)) rfl rfl rfl rfl) (sub_bx 1 rfl) ?_
                            refine JD_done (by kernel_rfl) ?_
                            exact N_meet' (v69, (g16_1 ++ (x27_1 ++ []))) ⟨rfl, rfl, rfl, rfl, rfl, rfl, trivial⟩ [2, 3, 4, 5, 6, 7, 10, 9] rfl rfl
                          · refine JO_st rfl (wants_none rfl) rfl (st_buildSlice_od (vs := [x27_0]) (B := (x27_1 ++ [])) ([r25.next] : List (List Int)) [7] Try.underlying53 ti_35 zi_35 rfl rfl rfl rfl rfl (fun w hh => (dwv_cons (hh.dw 7 rfl) dwv_nil))) (fun _ hk => nomatch hk) (fun b70 => ?_)
                            refine JD_one (i := 4) (by kernel_rfl) ?_
                            refine JO_q rfl (wants_none rfl) rfl (ex_load_bx 6 ti_53 rfl rfl rfl) ?_
                            refine JD_bnd fun z71 hz72 => ?_
                            refine JD_one (i := 8) (by kernel_rfl) ?_
                            refine JO_st rfl (wants_none rfl) rfl (st_append_od 4 0 Try.underlying53 ti_35 zi_35 rfl bi_35 rfl rfl rfl rfl rfl rfl hz72) (sub_od 0 rfl) (fun v73 => ?_)
                            refine JD_take (i := 9) hp63 rfl (by kernel_rfl) (by kernel_rfl) (by kernel_rfl) (wants_none rfl) rfl (ex_nilCheck rfl) ?_
                            refine JD_take (i := 10) hp63 rfl (by kernel_rfl) (by kernel_rfl) (by kernel_rfl) (wants_none rfl) rfl (ex_fieldAddr fi_55_3 rfl rfl) ?_
                            refine JD_one (i := 11) (by kernel_rfl) ?_
                            refine JO_sk rfl (wants_none rfl) (sk_store_bx' 6 ti_53 rfl rfl (fun w hh => (hh.cv_od 4 rfl)) rfl rfl rfl rfl) (sub_bx 1 rfl) ?_
                            refine JD_done (by kernel_rfl) ?_
                            exact N_meet' (v73, (g16_1 ++ (x27_1 ++ []))) ⟨rfl, rfl, rfl, rfl, rfl, rfl, trivial⟩ [2, 3, 4, 5, 6, 7, 10, 9] rfl rfl
                      · refine J_skip ?_
                        exact N_meet' ((.slice (some ⟨b20, 0, none⟩) s15.1.length cap21), g16_1) ⟨rfl, rfl, rfl, rfl, rfl, rfl, trivial⟩ [1, 2, 3, 4, 5, 6, 9, 8] rfl rfl
                    · obtain ⟨g60_0, g60_1⟩ := g60
                      refine N_then ?_
                      refine J_draw [3, 4] (by kernel_rfl) ?_
                      refine JP_take (i := 0) [0, 1, 2, 5, 6, 7] [3, 4] rfl (by kernel_rfl) (by kernel_rfl) (by kernel_rfl) rfl rfl (wants_none rfl) rfl (ex_move rfl) ?_
                      refine JP_take (i := 1) [0, 1, 2, 5, 6, 7] [3, 4] rfl (by kernel_rfl) (by kernel_rfl) (by kernel_rfl) rfl rfl (wants_none rfl) rfl (ex_move rfl) ?_
                      refine JP_take (i := 2) [0, 1, 2, 5, 6, 7] [3, 4] rfl (by kernel_rfl) (by kernel_rfl) (by kernel_rfl) rfl rfl (wants_none rfl) rfl (ex_nilCheck rfl) ?_
                      refine JP_take (i := 3) [0, 1, 2, 5, 6, 7] [3, 4] rfl (by kernel_rfl) (by kernel_rfl) (by kernel_rfl) rfl rfl (wants_none rfl) rfl (ex_fieldAddr fi_55_4 rfl rfl) ?_
                      refine JP_take (i := 4) [0, 1, 2, 5, 6, 7] [3, 4] rfl (by kernel_rfl) (by kernel_rfl) (by kernel_rfl) rfl rfl (wants_none rfl) rfl (ex_fieldAddr fi_28_2 rfl rfl) ?_
                      refine JP_take (i := 6) [0, 1, 2, 5, 6, 7] [3, 4] rfl (by kernel_rfl) (by kernel_rfl) (by kernel_rfl) rfl rfl (wants_none rfl) rfl (ex_fieldAddr fi_129_1 rfl rfl) ?_
                      refine JP_take (i := 7) [0, 1, 2, 5, 6, 7] [3, 4] rfl (by kernel_rfl) (by kernel_rfl) (by kernel_rfl) rfl rfl (wants_none rfl) rfl (ex_load_bx 4 ti_2 rfl rfl rfl) ?_
                      refine JP_take (i := 8) [0, 1, 2, 5, 6, 7] [3, 4] rfl (by kernel_rfl) (by kernel_rfl) (by kernel_rfl) rfl rfl (wants_none rfl) rfl (ex_fieldAddr fi_129_2 rfl rfl) ?_
                      refine JP_take (i := 9) [0, 1, 2, 5, 6, 7] [3, 4] rfl (by kernel_rfl) (by kernel_rfl) (by kernel_rfl) rfl rfl (wants_none rfl) rfl (ex_load_bx 4 ti_2 rfl rfl rfl) ?_
                      refine JP_take (i := 10) [0, 1, 2, 5, 6, 7] [3, 4] rfl (by kernel_rfl) (by kernel_rfl) (by kernel_rfl) rfl rfl (wants_none rfl) rfl (ex_move rfl) ?_
                      refine JP_take (i := 11) [0, 1, 2, 5, 6, 7] [3, 4] rfl (by kernel_rfl) (by kernel_rfl) (by kernel_rfl) rfl rfl (wants_none rfl) rfl (ex_build si_97 rfl (.cons fi_97_0 rfl rfl (.cons fi_97_1 rfl rfl (.cons fi_97_2 rfl rfl .nil))) (fun w hh => ⟨cv_int, cv_int, cv_int, trivial⟩)) ?_
                      refine JP_go [0, 1, 2, 5, 6, 7] [3, 4] rfl rfl rfl (fun w75 h1_76 hp74 => ?_)
                      refine JD_two (i := 5) (j := 12) (by kernel_rfl) ?_ ?_
                      · refine JO_q rfl (wants_none rfl) rfl (ex_load_bx 4 ti_26 rfl rfl rfl) ?_
                        refine JD_one (i := 12) (by kernel_rfl) ?_
                        refine JO_st rfl (wants_none rfl) rfl (st_buildSlice (vs := [.agg #[.int .i64 r25.write, .int .i64 r25.move, .int .i64 s59.2]]) ([(⟨r25.write, r25.move, s59.2⟩ : GRule)] : List GRule) Try.underlying26 ti_97 zi_97 rfl rfl rfl (fun w hh => ⟨(GRule.rdmk (Rd.mk_int _ _ _) (Rd.mk_int _ _ _) (Rd.mk_int _ _ _)), trivial⟩)) (fun _ hk => nomatch hk) (fun b77 => ?_)
                        refine JD_bnd fun z78 hz79 => ?_
                        refine JD_one (i := 13) (by kernel_rfl) ?_
                        refine JO_st rfl (wants_none rfl) rfl (st_append 4 Try.underlying26 ti_97 zi_97 rfl bi_97 rfl rfl rfl rfl (fun w hh => hh.src_ow 0 rfl) hz79) (sub_ow 0 rfl) (fun v80 => ?_)
                        refine JD_take (i := 14) hp74 rfl (by kernel_rfl) (by kernel_rfl) (by kernel_rfl) (wants_none rfl) rfl (ex_nilCheck rfl) ?_
                        refine JD_take (i := 15) hp74 rfl (by kernel_rfl) (by kernel_rfl) (by kernel_rfl) (wants_none rfl) rfl (ex_fieldAddr fi_55_4 rfl rfl) ?_
                        refine JD_take (i := 16) hp74 rfl (by kernel_rfl) (by kernel_rfl) (by kernel_rfl) (wants_none rfl) rfl (ex_fieldAddr fi_28_2 rfl rfl) ?_
                        refine JD_one (i := 17) (by kernel_rfl) ?_
                        refine JO_sk rfl (wants_none rfl) (sk_store_bx' 5 ti_26 rfl rfl (fun w hh => (hh.cv_ow 4 rfl)) rfl rfl rfl rfl) (sub_bx 1 rfl) ?_
                        refine JD_done (by kernel_rfl) ?_
                        refine N_block ?_
                        refine N_then ?_
                        refine J_region ?_
                        refine JL_q (wants_none rfl) rfl (ex_move rfl) ?_
                        refine JL_q (wants_none rfl) rfl (ex_add rfl rfl) ?_
                        refine JL_q (wants_none rfl) rfl (ex_assign rfl) ?_
                        refine JL_nil ?_
                        exact N_next' (g60_0, g60_1, v80) ⟨rfl, rfl, rfl, rfl, trivial⟩ [1, 2, 3, 4, 5, 8] rfl rfl
                      · refine JO_st rfl (wants_none rfl) rfl (st_buildSlice (vs := [.agg #[.int .i64 r25.write, .int .i64 r25.move, .int .i64 s59.2]]) ([(⟨r25.write, r25.move, s59.2⟩ : GRule)] : List GRule) Try.underlying26 ti_97 zi_97 rfl rfl rfl (fun w hh => ⟨(GRule.rdmk (Rd.mk_int _ _ _) (Rd.mk_int _ _ _) (Rd.mk_int _ _ _)), trivial⟩)) (fun _ hk => nomatch hk) (fun b81 => ?_)
                        refine JD_one (i := 5) (by kernel_rfl) ?_
                        refine JO_q rfl (wants_none rfl) rfl (ex_load_bx 5 ti_26 rfl rfl rfl) ?_
                        refine JD_bnd fun z82 hz83 => ?_
                        refine JD_one (i := 13) (by kernel_rfl) ?_
                        refine JO_st rfl (wants_none rfl) rfl (st_append 4 Try.underlying26 ti_97 zi_97 rfl bi_97 rfl rfl rfl rfl (fun w hh => hh.src_ow 0 rfl) hz83) (sub_ow 0 rfl) (fun v84 => ?_)
                        refine JD_take (i := 14) hp74 rfl (by kernel_rfl) (by kernel_rfl) (by kernel_rfl) (wants_none rfl) rfl (ex_nilCheck rfl) ?_
                        refine JD_take (i := 15) hp74 rfl (by kernel_rfl) (by kernel_rfl) (by kernel_rfl) (wants_none rfl) rfl (ex_fieldAddr fi_55_4 rfl rfl) ?_
                        refine JD_take (i := 16) hp74 rfl (by kernel_rfl) (by kernel_rfl) (by kernel_rfl) (wants_none rfl) rfl (ex_fieldAddr fi_28_2 rfl rfl) ?_
                        refine JD_one (i := 17) (by kernel_rfl) ?_
                        refine JO_sk rfl (wants_none rfl) (sk_store_bx' 5 ti_26 rfl rfl (fun w hh => (hh.cv_ow 4 rfl)) rfl rfl rfl rfl) (sub_bx 1 rfl) ?_
                        refine JD_done (by kernel_rfl) ?_
                        refine N_block ?_
                        refine N_then ?_
                        refine J_region ?_
                        refine JL_q (wants_none rfl) rfl (ex_move rfl) ?_
                        refine JL_q (wants_none rfl) rfl (ex_add rfl rfl) ?_
                        refine JL_q (wants_none rfl) rfl (ex_assign rfl) ?_
                        refine JL_nil ?_
                        exact N_next' (g60_0, g60_1, v84) ⟨rfl, rfl, rfl, rfl, trivial⟩ [1, 2, 3, 4, 5, 8] rfl rfl
                  · refine J_skip ?_
                    refine N_block ?_
                    refine N_then ?_
                    refine J_region ?_
                    refine JL_q (wants_none rfl) rfl (ex_move rfl) ?_
                    refine JL_q (wants_none rfl) rfl (ex_add rfl rfl) ?_
                    refine JL_q (wants_none rfl) rfl (ex_assign rfl) ?_
                    refine JL_nil ?_
                    exact N_next' () ⟨rfl, rfl, rfl, trivial⟩ [1, 2, 3, 4, 5, 6, 7, 8, 9] rfl rfl
                · refine J_exit ?_
                  refine N_then_exit ?_
                  exact N_break' () ⟨rfl, rfl, rfl, trivial⟩ [0, 1, 2, 3, 4, 5, 6, 7, 8] rfl rfl
              · refine N_then ?_
                refine J_seq ?_
                refine J_region ?_
                refine JL_q (wants_none rfl) rfl (ex_assign rfl) ?_
                refine JL_nil ?_
                refine N_then ?_
                refine J_ret ?_
                refine N_inl1 hK49 rfl (rv_tmp rfl) ?_
                refine JL_q (wants_none rfl) rfl (ex_assign rfl) ?_
                refine JL_nil ?_
                refine N_then ?_
                refine J_seq ?_
                refine J_cut' (S' := (List (List Int)) × Int) (G' := Value × List Nat) (fun s85 g86 => [(0, .pointer (some ⟨b7, 0, none⟩)), (1, .int .i64 2), (7, .int .i64 s12.2.2), (8, .int .i64 s15.2.2), (9, .pointer (some ⟨b28, 0, none⟩)), (10, .int .i64 s85.2)]) (fun s85 g86 => [.rd v0_0 p0.Rules, .bx b1 28 [.int .i64 p0.Symbols, .int .i64 p0.States, v0_0], .od 35 g86.1 s85.1 g86.2, .ow 97 g16_2 s15.2.1, .bx b7 55 [.pointer (some ⟨b1, 0, none⟩), .pointer none, .int .i64 0, g86.1, .int .i64 2, .int .i64 0, g16_2], .rd x27_0 r25.next, .bx b28 129 [.bool r25.ok, .int .i64 r25.write, .int .i64 r25.move, x27_0], .bx b2 28 [.int .i64 0, .int .i64 0, .slice none 0 0]]) ?_ (fun s85 g86 => ?_)
                · refine J_seq ?_
                  refine J_region ?_
                  refine JL_q (wants_none rfl) rfl (ex_move rfl) ?_
                  refine JL_q (wants_none rfl) rfl (ex_lss rfl rfl) ?_
                  refine JL_nil ?_
                  refine N_then ?_
                  refine J_if_true rfl (by decide) ?_
                  refine J_seq ?_
                  refine J_seq ?_
                  refine J_region ?_
                  refine JL_q (wants_none rfl) rfl (ex_move rfl) ?_
                  refine JL_q (wants_none rfl) rfl (ex_nilCheck rfl) ?_
                  refine JL_q (wants_none rfl) rfl (ex_fieldAddr fi_55_3 rfl rfl) ?_
                  refine JL_q (wants_none rfl) rfl (ex_load_bx 4 ti_53 rfl rfl rfl) ?_
                  refine JL_q (wants_none rfl) rfl (ex_od 2 rfl (ex_len_ow 2 Try.underlying53 rfl rfl)) ?_
                  refine JL_q (wants_none rfl) rfl (ex_eql rfl rfl) ?_
                  refine JL_nil ?_
                  refine N_then ?_
                  refine J_if rfl (fun h87 => ?_) (fun h87 => ?_)
                  · refine J_seq ?_
                    refine J_region ?_
                    refine JL_q (wants_none rfl) rfl (ex_assign rfl) ?_
                    refine JL_nil ?_
                    refine N_then ?_
                    refine J_ret ?_
                    refine N_then_ret ?_
                    refine N_mid_ret ?_
                    refine N_then_ret ?_
                    refine N_block_ret ?_
                    refine N_then_ret ?_
                    refine N_round_ret ?_
                    refine N_block_ret ?_
                    refine N_then_ret ?_
                    refine N_round_reti ?_
                    refine N_then_ret ?_
                    refine N_inl1 hK9 rfl (rv_tmp rfl) ?_
                    refine JL_q (wants_none rfl) rfl (ex_assign rfl) ?_
                    refine JL_nil ?_
                    refine N_then ?_
                    refine J_seq ?_
                    refine J_region ?_
                    refine JL_q (wants_none rfl) rfl (ex_move rfl) ?_
                    refine JL_q (wants_none rfl) rfl (ex_move rfl) ?_
                    refine JL_q (wants_none rfl) rfl (ex_assign rfl) ?_
                    refine JL_q (wants_none rfl) rfl (ex_assign rfl) ?_
                    refine JL_nil ?_
                    refine N_then ?_
                    refine J_ret ?_
                    refine N_inl2 hK6 rfl (rv_tmp rfl) (rv_tmp rfl) ?_
                    refine JL_q (wants_none rfl) rfl (ex_move rfl) ?_
                    refine JL_q (wants_none rfl) rfl (ex_extract rfl rfl) ?_
                    refine JL_q (wants_none rfl) rfl (ex_extract rfl rfl) ?_
                    refine JL_q (wants_none rfl) rfl (ex_assign rfl) ?_
                    refine JL_q (wants_none rfl) rfl (ex_assign rfl) ?_
                    refine JL_nil ?_
                    refine N_then ?_
                    refine J_seq ?_
                    refine J_seq ?_
                    refine J_region ?_
                    refine JL_q (wants_none rfl) rfl (ex_move rfl) ?_
                    refine JL_q (wants_none rfl) rfl (ex_not rfl) ?_
                    refine JL_nil ?_
                    refine N_then ?_
                    refine J_if_true rfl (by rw [show (false) = false from rfl]; rfl) ?_
                    refine J_seq ?_
                    refine J_region ?_
                    refine JL_q (wants_none rfl) rfl (ex_build si_28 rfl .nil (fun w hh => trivial)) ?_
                    refine JL_sk (wants_none rfl) (sk_store_bx' 7 ti_28 rfl rfl (fun w hh => (cv_aggs ⟨cv_int, cv_int, cv_slice, trivial⟩)) rfl rfl rfl rfl) ?_
                    refine JL_q (wants_none rfl) rfl (ex_assign rfl) ?_
                    refine JL_nil ?_
                    refine N_then ?_
                    refine J_ret ?_
                    refine N_then_ret ?_
                    refine N_ctx (fun w hh => SH.ow_nil (α := GRule) 97 hh) ?_
                    exact N_ret2 rfl (rv_cell 8 rfl rfl ti_28 rfl) (rv_tmp rfl) (fun w hh => ⟨(.slice none 0 0 : Value), rfl, hh.sel [0] rfl⟩)
                  · refine J_skip ?_
                    refine N_then ?_
                    refine J_seq ?_
                    refine J_region ?_
                    refine JL_q (wants_none rfl) rfl (ex_move rfl) ?_
                    refine JL_q (wants_none rfl) rfl (ex_nilCheck rfl) ?_
                    refine JL_q (wants_none rfl) rfl (ex_fieldAddr fi_55_3 rfl rfl) ?_
                    refine JL_q (wants_none rfl) rfl (ex_load_bx 4 ti_53 rfl rfl rfl) ?_
                    refine JL_q (wants_none rfl) rfl (ex_od 2 rfl (ex_len_ow 2 Try.underlying53 rfl rfl)) ?_
                    refine JL_q (wants_none rfl) rfl (ex_assign rfl) ?_
                    refine JL_nil ?_
                    refine N_then ?_
                    refine J_draw [2, 4] (by kernel_rfl) ?_
                    refine JP_take (i := 0) [0, 1, 3, 5, 6, 7, 8] [2, 4] rfl (by kernel_rfl) (by kernel_rfl) (by kernel_rfl) rfl rfl (wants_none rfl) rfl (ex_move rfl) ?_
                    refine JP_take (i := 1) [0, 1, 3, 5, 6, 7, 8] [2, 4] rfl (by kernel_rfl) (by kernel_rfl) (by kernel_rfl) rfl rfl (wants_none rfl) rfl (ex_move rfl) ?_
                    refine JP_take (i := 2) [0, 1, 3, 5, 6, 7, 8] [2, 4] rfl (by kernel_rfl) (by kernel_rfl) (by kernel_rfl) rfl rfl (wants_none rfl) rfl (ex_nilCheck rfl) ?_
                    refine JP_take (i := 3) [0, 1, 3, 5, 6, 7, 8] [2, 4] rfl (by kernel_rfl) (by kernel_rfl) (by kernel_rfl) rfl rfl (wants_none rfl) rfl (ex_fieldAddr fi_55_3 rfl rfl) ?_
                    refine JP_take (i := 5) [0, 1, 3, 5, 6, 7, 8] [2, 4] rfl (by kernel_rfl) (by kernel_rfl) (by kernel_rfl) rfl rfl (wants_none rfl) rfl (ex_fieldAddr fi_129_3 rfl rfl) ?_
                    refine JP_take (i := 6) [0, 1, 3, 5, 6, 7, 8] [2, 4] rfl (by kernel_rfl) (by kernel_rfl) (by kernel_rfl) rfl rfl (wants_none rfl) rfl (ex_load_bx 6 ti_35 rfl rfl rfl) ?_
                    refine JP_go [0, 1, 3, 5, 6, 7, 8] [2, 4] rfl rfl rfl (fun w89 h1_90 hp88 => ?_)
                    refine JD_two (i := 4) (j := 7) (by kernel_rfl) ?_ ?_
                    · refine JO_q rfl (wants_none rfl) rfl (ex_load_bx 4 ti_53 rfl rfl rfl) ?_
                      refine JD_one (i := 7) (by kernel_rfl) ?_
                      refine JO_st rfl (wants_none rfl) rfl (st_buildSlice_od (vs := [x27_0]) (B := (x27_1 ++ [])) ([r25.next] : List (List Int)) [6] Try.underlying53 ti_35 zi_35 rfl rfl rfl rfl rfl (fun w hh => (dwv_cons (hh.dw 6 rfl) dwv_nil))) (fun _ hk => nomatch hk) (fun b91 => ?_)
                      refine JD_bnd fun z92 hz93 => ?_
                      refine JD_one (i := 8) (by kernel_rfl) ?_
                      refine JO_st rfl (wants_none rfl) rfl (st_append_od 3 0 Try.underlying53 ti_35 zi_35 rfl bi_35 rfl rfl rfl rfl rfl rfl hz93) (sub_od 0 rfl) (fun v94 => ?_)
                      refine JD_take (i := 9) hp88 rfl (by kernel_rfl) (by kernel_rfl) (by kernel_rfl) (wants_none rfl) rfl (ex_nilCheck rfl) ?_
                      refine JD_take (i := 10) hp88 rfl (by kernel_rfl) (by kernel_rfl) (by kernel_rfl) (wants_none rfl) rfl (ex_fieldAddr fi_55_3 rfl rfl) ?_
                      refine JD_one (i := 11) (by kernel_rfl) ?_
                      refine JO_sk rfl (wants_none rfl) (sk_store_bx' 5 ti_53 rfl rfl (fun w hh => (hh.cv_od 3 rfl)) rfl rfl rfl rfl) (sub_bx 1 rfl) ?_
                      refine JD_done (by kernel_rfl) ?_
                      exact N_meet' (v94, (g16_1 ++ (x27_1 ++ []))) ⟨rfl, rfl, rfl, rfl, rfl, rfl, trivial⟩ [1, 2, 3, 4, 5, 6, 9, 8] rfl rfl
                    · refine JO_st rfl (wants_none rfl) rfl (st_buildSlice_od (vs := [x27_0]) (B := (x27_1 ++ [])) ([r25.next] : List (List Int)) [6] Try.underlying53 ti_35 zi_35 rfl rfl rfl rfl rfl (fun w hh => (dwv_cons (hh.dw 6 rfl) dwv_nil))) (fun _ hk => nomatch hk) (fun b95 => ?_)
                      refine JD_one (i := 4) (by kernel_rfl) ?_
                      refine JO_q rfl (wants_none rfl) rfl (ex_load_bx 5 ti_53 rfl rfl rfl) ?_
                      refine JD_bnd fun z96 hz97 => ?_
                      refine JD_one (i := 8) (by kernel_rfl) ?_
                      refine JO_st rfl (wants_none rfl) rfl (st_append_od 3 0 Try.underlying53 ti_35 zi_35 rfl bi_35 rfl rfl rfl rfl rfl rfl hz97) (sub_od 0 rfl) (fun v98 => ?_)
                      refine JD_take (i := 9) hp88 rfl (by kernel_rfl) (by kernel_rfl) (by kernel_rfl) (wants_none rfl) rfl (ex_nilCheck rfl) ?_
                      refine JD_take (i := 10) hp88 rfl (by kernel_rfl) (by kernel_rfl) (by kernel_rfl) (wants_none rfl) rfl (ex_fieldAddr fi_55_3 rfl rfl) ?_
                      refine JD_one (i := 11) (by kernel_rfl) ?_
                      refine JO_sk rfl (wants_none rfl) (sk_store_bx' 5 ti_53 rfl rfl (fun w hh => (hh.cv_od 3 rfl)) rfl rfl rfl rfl) (sub_bx 1 rfl) ?_
                      refine JD_done (by kernel_rfl) ?_
                      exact N_meet' (v98, (g16_1 ++ (x27_1 ++ []))) ⟨rfl, rfl, rfl, rfl, rfl, rfl, trivial⟩ [1, 2, 3, 4, 5, 6, 9, 8] rfl rfl
                · obtain ⟨g86_0, g86_1⟩ := g86
                  refine N_then ?_
                  refine J_draw [3, 4] (by kernel_rfl) ?_
                  refine JP_take (i := 0) [0, 1, 2, 5, 6, 7] [3, 4] rfl (by kernel_rfl) (by kernel_rfl) (by kernel_rfl) rfl rfl (wants_none rfl) rfl (ex_move rfl) ?_
                  refine JP_take (i := 1) [0, 1, 2, 5, 6, 7] [3, 4] rfl (by kernel_rfl) (by kernel_rfl) (by kernel_rfl) rfl rfl (wants_none rfl) rfl (ex_move rfl) ?_
                  refine JP_take (i := 2) [0, 1, 2, 5, 6, 7] [3, 4] rfl (by kernel_rfl) (by kernel_rfl) (by kernel_rfl) rfl rfl (wants_none rfl) rfl (ex_nilCheck rfl) ?_
                  refine JP_take (i := 3) [0, 1, 2, 5, 6, 7] [3, 4] rfl (by kernel_rfl) (by kernel_rfl) (by kernel_rfl) rfl rfl (wants_none rfl) rfl (ex_fieldAddr fi_55_4 rfl rfl) ?_
                  refine JP_take (i := 4) [0, 1, 2, 5, 6, 7] [3, 4] rfl (by kernel_rfl) (by kernel_rfl) (by kernel_rfl) rfl rfl (wants_none rfl) rfl (ex_fieldAddr fi_28_2 rfl rfl) ?_
                  refine JP_take (i := 6) [0, 1, 2, 5, 6, 7] [3, 4] rfl (by kernel_rfl) (by kernel_rfl) (by kernel_rfl) rfl rfl (wants_none rfl) rfl (ex_fieldAddr fi_129_1 rfl rfl) ?_
                  refine JP_take (i := 7) [0, 1, 2, 5, 6, 7] [3, 4] rfl (by kernel_rfl) (by kernel_rfl) (by kernel_rfl) rfl rfl (wants_none rfl) rfl (ex_load_bx 4 ti_2 rfl rfl rfl) ?_
                  refine JP_take (i := 8) [0, 1, 2, 5, 6, 7] [3, 4] rfl (by kernel_rfl) (by kernel_rfl) (by kernel_rfl) rfl rfl (wants_none rfl) rfl (ex_fieldAddr fi_129_2 rfl rfl) ?_
                  refine JP_take (i := 9) [0, 1, 2, 5, 6, 7] [3, 4] rfl (by kernel_rfl) (by kernel_rfl) (by kernel_rfl) rfl rfl (wants_none rfl) rfl (ex_load_bx 4 ti_2 rfl rfl rfl) ?_
                  refine JP_take (i := 10) [0, 1, 2, 5, 6, 7] [3, 4] rfl (by kernel_rfl) (by kernel_rfl) (by kernel_rfl) rfl rfl (wants_none rfl) rfl (ex_move rfl) ?_
                  refine JP_take (i := 11) [0, 1, 2, 5, 6, 7] [3, 4] rfl (by kernel_rfl) (by kernel_rfl) (by kernel_rfl) rfl rfl (wants_none rfl) rfl (ex_build si_97 rfl (.cons fi_97_0 rfl rfl (.cons fi_97_1 rfl rfl (.cons fi_97_2 rfl rfl .nil))) (fun w hh => ⟨cv_int, cv_int, cv_int, trivial⟩)) ?_
                  refine JP_go [0, 1, 2, 5, 6, 7] [3, 4] rfl rfl rfl (fun w100 h1_101 hp99 => ?_)
                  refine JD_two (i := 5) (j := 12) (by kernel_rfl) ?_ ?_
                  · refine JO_q rfl (wants_none rfl) rfl (ex_load_bx 4 ti_26 rfl rfl rfl) ?_
                    refine JD_one (i := 12) (by kernel_rfl) ?_
                    refine JO_st rfl (wants_none rfl) rfl (st_buildSlice (vs := [.agg #[.int .i64 r25.write, .int .i64 r25.move, .int .i64 s85.2]]) ([(⟨r25.write, r25.move, s85.2⟩ : GRule)] : List GRule) Try.underlying26 ti_97 zi_97 rfl rfl rfl (fun w hh => ⟨(GRule.rdmk (Rd.mk_int _ _ _) (Rd.mk_int _ _ _) (Rd.mk_int _ _ _)), trivial⟩)) (fun _ hk => nomatch hk) (fun b102 => ?_)
                    refine JD_bnd fun z103 hz104 => ?_
                    refine JD_one (i := 13) (by kernel_rfl) ?_
                    refine JO_st rfl (wants_none rfl) rfl (st_append 4 Try.underlying26 ti_97 zi_97 rfl bi_97 rfl rfl rfl rfl (fun w hh => hh.src_ow 0 rfl) hz104) (sub_ow 0 rfl) (fun v105 => ?_)
                    refine JD_take (i := 14) hp99 rfl (by kernel_rfl) (by kernel_rfl) (by kernel_rfl) (wants_none rfl) rfl (ex_nilCheck rfl) ?_
                    refine JD_take (i := 15) hp99 rfl (by kernel_rfl) (by kernel_rfl) (by kernel_rfl) (wants_none rfl) rfl (ex_fieldAddr fi_55_4 rfl rfl) ?_
                    refine JD_take (i := 16) hp99 rfl (by kernel_rfl) (by kernel_rfl) (by kernel_rfl) (wants_none rfl) rfl (ex_fieldAddr fi_28_2 rfl rfl) ?_
                    refine JD_one (i := 17) (by kernel_rfl) ?_
                    refine JO_sk rfl (wants_none rfl) (sk_store_bx' 5 ti_26 rfl rfl (fun w hh => (hh.cv_ow 4 rfl)) rfl rfl rfl rfl) (sub_bx 1 rfl) ?_
                    refine JD_done (by kernel_rfl) ?_
                    refine N_block ?_
                    refine N_then ?_
                    refine J_region ?_
                    refine JL_q (wants_none rfl) rfl (ex_move rfl) ?_
                    refine JL_q (wants_none rfl) rfl (ex_add rfl rfl) ?_
                    refine JL_q (wants_none rfl) rfl (ex_assign rfl) ?_
                    refine JL_nil ?_
                    exact N_next' (g86_0, g86_1, v105) ⟨rfl, rfl, rfl, rfl, trivial⟩ [1, 2, 3, 4, 5, 8] rfl rfl
                  · refine JO_st rfl (wants_none rfl) rfl (st_buildSlice (vs := [.agg #[.int .i64 r25.write, .int .i64 r25.move, .int .i64 s85.2]]) ([(⟨r25.write, r25.move, s85.2⟩ : GRule)] : List GRule) Try.underlying26 ti_97 zi_97 rfl rfl rfl (fun w hh => ⟨(GRule.rdmk (Rd.mk_int _ _ _) (Rd.mk_int _ _ _) (Rd.mk_int _ _ _)), trivial⟩)) (fun _ hk => nomatch hk) (fun b106 => ?_)
                    refine JD_one (i := 5) (by kernel_rfl) ?_
                    refine JO_q rfl (wants_none rfl) rfl (ex_load_bx 5 ti_26 rfl rfl rfl) ?_
                    refine JD_bnd fun z107 hz108 => ?_
                    refine JD_one (i := 13) (by kernel_rfl) ?_
                    refine JO_st rfl (wants_none rfl) rfl (st_append 4 Try.underlying26 ti_97 zi_97 rfl bi_97 rfl rfl rfl rfl (fun w hh => hh.src_ow 0 rfl) hz108) (sub_ow 0 rfl) (fun v109 => ?_)
                    refine JD_take (i := 14) hp99 rfl (by kernel_rfl) (by kernel_rfl) (by kernel_rfl) (wants_none rfl) rfl (ex_nilCheck rfl) ?_
                    refine JD_take (i := 15) hp99 rfl (by kernel_rfl) (by kernel_rfl) (by kernel_rfl) (wants_none rfl) rfl (ex_fieldAddr fi_55_4 rfl rfl) ?_
                    refine JD_take (i := 16) hp99 rfl (by kernel_rfl) (by kernel_rfl) (by kernel_rfl) (wants_none rfl) rfl (ex_fieldAddr fi_28_2 rfl rfl) ?_
                    refine JD_one (i := 17) (by kernel_rfl) ?_
                    refine JO_sk rfl (wants_none rfl) (sk_store_bx' 5 ti_26 rfl rfl (fun w hh => (hh.cv_ow 4 rfl)) rfl rfl rfl rfl) (sub_bx 1 rfl) ?_
                    refine JD_done (by kernel_rfl) ?_
                    refine N_block ?_
                    refine N_then ?_
                    refine J_region ?_
                    refine JL_q (wants_none rfl) rfl (ex_move rfl) ?_
                    refine JL_q (wants_none rfl) rfl (ex_add rfl rfl) ?_
                    refine JL_q (wants_none rfl) rfl (ex_assign rfl) ?_
                    refine JL_nil ?_
                    exact N_next' (g86_0, g86_1, v109) ⟨rfl, rfl, rfl, rfl, trivial⟩ [1, 2, 3, 4, 5, 8] rfl rfl
          · refine J_exit ?_
            refine N_then_exit ?_
            exact N_break' (g16_0, g16_1, g16_2) ⟨rfl, rfl, rfl, rfl, trivial⟩ [0, 1, 2, 3, 4, 5] rfl rfl
        · obtain ⟨g16_0, g16_1, g16_2⟩ := g16
          refine N_block ?_
          refine N_then ?_
          refine J_region ?_
          refine JL_q (wants_none rfl) rfl (ex_move rfl) ?_
          refine JL_q (wants_none rfl) rfl (ex_add rfl rfl) ?_
          refine JL_q (wants_none rfl) rfl (ex_assign rfl) ?_
          refine JL_nil ?_
          exact N_next' (g16_0, g16_1, g16_2) ⟨rfl, rfl, rfl, trivial⟩ [0, 1, 2, 3, 4, 5] rfl rfl
      · refine J_exit ?_
        refine N_then_exit ?_
        exact N_break' (g13_0, g13_1, g13_2) ⟨rfl, rfl, rfl, trivial⟩ [0, 1, 2, 3, 4, 5] rfl rfl
    · obtain ⟨g13_0, g13_1, g13_2⟩ := g13
      refine N_then ?_
      refine J_seq ?_
      refine J_region ?_
      refine JL_q (wants_none rfl) rfl (ex_move rfl) ?_
      refine JL_q (wants_none rfl) rfl (ex_move rfl) ?_
      refine JL_q (wants_none rfl) rfl (ex_nilCheck rfl) ?_
      refine JL_q (wants_none rfl) rfl (ex_fieldAddr fi_55_3 rfl rfl) ?_
      refine JL_q (wants_none rfl) rfl (ex_load_bx 4 ti_53 rfl rfl rfl) ?_
      refine JL_q (wants_none rfl) rfl (ex_od 2 rfl (ex_len_ow 2 Try.underlying53 rfl rfl)) ?_
      refine JL_q (wants_none rfl) rfl (ex_nilCheck rfl) ?_
      refine JL_q (wants_none rfl) rfl (ex_fieldAddr fi_55_4 rfl rfl) ?_
      refine JL_q (wants_none rfl) rfl (ex_fieldAddr fi_28_1 rfl rfl) ?_
      refine JL_sk (wants_none rfl) (sk_store_bx' 4 ti_2 rfl rfl (fun w hh => cv_int) rfl rfl rfl rfl) ?_
      refine JL_nil ?_
      refine N_then ?_
      refine J_seq ?_
      refine J_region ?_
      refine JL_q (wants_none rfl) rfl (ex_assign rfl) ?_
      refine JL_nil ?_
      refine N_then ?_
      refine J_ret ?_
      refine N_inl1 hK9 rfl (rv_tmp rfl) ?_
      refine JL_q (wants_none rfl) rfl (ex_assign rfl) ?_
      refine JL_nil ?_
      refine N_then ?_
      refine J_seq ?_
      refine J_region ?_
      refine JL_q (wants_none rfl) rfl (ex_move rfl) ?_
      refine JL_q (wants_none rfl) rfl (ex_move rfl) ?_
      refine JL_q (wants_none rfl) rfl (ex_assign rfl) ?_
      refine JL_q (wants_none rfl) rfl (ex_assign rfl) ?_
      refine JL_nil ?_
      refine N_then ?_
      refine J_ret ?_
      refine N_inl2 hK6 rfl (rv_tmp rfl) (rv_tmp rfl) ?_
      refine JL_q (wants_none rfl) rfl (ex_move rfl) ?_
      refine JL_q (wants_none rfl) rfl (ex_extract rfl rfl) ?_
      refine JL_q (wants_none rfl) rfl (ex_extract rfl rfl) ?_
      refine JL_q (wants_none rfl) rfl (ex_assign rfl) ?_
      refine JL_q (wants_none rfl) rfl (ex_assign rfl) ?_
      refine JL_nil ?_
      refine N_then ?_
      refine J_seq ?_
      refine J_seq ?_
      refine J_region ?_
      refine JL_q (wants_none rfl) rfl (ex_move rfl) ?_
      refine JL_q (wants_none rfl) rfl (ex_not rfl) ?_
      refine JL_nil ?_
      refine N_then ?_
      refine J_if_false rfl (by rw [show (true) = true from rfl]; rfl) ?_
      refine J_skip ?_
      refine N_then ?_
      refine J_seq ?_
      refine J_region ?_
      refine JL_q (wants_none rfl) rfl (ex_move rfl) ?_
      refine JL_q (wants_none rfl) rfl (ex_nilCheck rfl) ?_
      refine JL_q (wants_none rfl) rfl (ex_fieldAddr fi_55_4 rfl rfl) ?_
      refine JL_q (wants_none rfl) rfl (ex_load_bx_agg 4 ti_28 rfl rfl rfl rfl) ?_
      refine JL_sk (wants_none rfl) (sk_store_bx' 5 ti_28 rfl rfl (fun w hh => (cv_aggs ⟨cv_int, cv_int, (hh.cv_ow 3 rfl), trivial⟩)) rfl rfl rfl rfl) ?_
      refine JL_q (wants_none rfl) rfl (ex_assign rfl) ?_
      refine JL_nil ?_
      refine N_then ?_
      refine J_ret ?_
      exact N_ret2 rfl (rv_cell 5 rfl rfl ti_28 rfl) (rv_tmp rfl) (fun w hh => ⟨g13_2, rfl, hh.sel [3] rfl⟩)

set_option maxHeartbeats 40000000 in
theorem c_impl_BinaryMachine (A : Nat → Prop) (w : World) (hA : ∀ k, A k → k < w.heap.size) (v0_ : Value) (p0 : GMachine) (hp0 : Rd A w v0_ p0) (r : GMachine × Int) (hr : F_impl_BinaryMachine p0 = some r) :
    Con Try.prog 11 [v0_] A w (fun x_ : Value => .tuple #[.agg #[.int .i64 r.1.Symbols, .int .i64 r.1.States, x_], .int .i64 r.2]) (fun x_ => [.ow 97 x_ r.1.Rules]) := by
  obtain ⟨v0_0, rfl, hp0_0⟩ := GMachine.open hp0
  refine Con_of (v := fun (r : GMachine × Int) (x_ : Value) => .tuple #[.agg #[.int .i64 r.1.Symbols, .int .i64 r.1.States, x_], .int .i64 r.2]) (fs := fun r x_ => [.ow 97 x_ r.1.Rules]) Try.func11 rfl Try.ntmps11 rfl ((SH.start hA).start_rd rfl hp0_0) rfl ?_ hr
  unfold F_impl_BinaryMachine
  refine J_seq ?_
  refine J_region ?_
  refine JL_st (wants_none rfl) rfl (st_box' rfl (fun w hh => (cv_aggs ⟨cv_int, cv_int, (hh.cv 0 rfl), trivial⟩))) (fun b1 => ?_)
  refine JL_st (wants_none rfl) rfl (st_alloc zi_28 rfl) (fun b2 => ?_)
  refine JL_q (wants_none rfl) rfl (ex_assign rfl) ?_
  refine JL_nil ?_
  refine N_then ?_
  refine J_seq ?_
  refine J_seq ?_
  refine J_region ?_
  refine JL_q (wants_none rfl) rfl (ex_load_bx_agg 1 ti_28 rfl rfl rfl rfl) ?_
  refine JL_bnd fun r3 hr4 => ?_
  refine JL_call (wants_none rfl) rfl Try.call32 rfl (Ca_of0 fun w hh => c_impl_ValidMachine _ w (fun _ hk => hk.elim) _ _ (GMachine.rdmk (Rd.mk_int _ _ _) (Rd.mk_int _ _ _) (hh.rd0 2 rfl)) _ hr4) (fun _ => ?_)
  refine JL_q (wants_none rfl) rfl (ex_not rfl) ?_
  refine JL_nil ?_
  refine N_then ?_
  refine J_if rfl (fun h5 => ?_) (fun h5 => ?_)
  · refine J_seq ?_
    refine J_region ?_
    refine JL_q (wants_none rfl) rfl (ex_build si_28 rfl .nil (fun w hh => trivial)) ?_
    refine JL_sk (wants_none rfl) (sk_store_bx' 0 ti_28 rfl rfl (fun w hh => (cv_aggs ⟨cv_int, cv_int, cv_slice, trivial⟩)) rfl rfl rfl rfl) ?_
    refine JL_q (wants_none rfl) rfl (ex_assign rfl) ?_
    refine JL_nil ?_
    refine N_then ?_
    refine J_ret ?_
    refine N_then_ret ?_
    refine N_ctx (fun w hh => SH.ow_nil (α := GRule) 97 hh) ?_
    exact N_ret2 rfl (rv_cell 1 rfl rfl ti_28 rfl) (rv_tmp rfl) (fun w hh => ⟨(.slice none 0 0 : Value), rfl, hh.sel [0] rfl⟩)
  · refine J_skip ?_
    refine N_then ?_
    refine J_seq ?_
    refine J_region ?_
    refine JL_q (wants_none rfl) rfl (ex_load_bx_agg 1 ti_28 rfl rfl rfl rfl) ?_
    refine JL_inline (wants_none rfl) rfl Try.call34 rfl Try.func34 rfl Try.ntmps34 rfl rfl (fun K_ hK6 => ?_)
    refine J_seq ?_
    refine J_region ?_
    refine JL_st (wants_none rfl) rfl (st_box' rfl (fun w hh => (cv_aggs ⟨cv_int, cv_int, (hh.cv 2 rfl), trivial⟩))) (fun b7 => ?_)
    refine JL_q (wants_none rfl) rfl (ex_assign rfl) ?_
    refine JL_q (wants_none rfl) rfl (ex_assign rfl) ?_
    refine JL_nil ?_
    refine N_then ?_
    refine J_seq ?_
    refine J_region ?_
    refine JL_q (wants_none rfl) rfl (ex_load_bx_agg 0 ti_28 rfl rfl rfl rfl) ?_
    refine JL_bnd fun r8 hr9 => ?_
    refine JL_call (wants_none rfl) rfl Try.call55 rfl (Ca_of0 fun w hh => c_impl_bitsOf _ w (fun _ hk => hk.elim) _ _ (GMachine.rdmk (Rd.mk_int _ _ _) (Rd.mk_int _ _ _) (hh.rd0 3 rfl)) _ hr9) (fun _ => ?_)
    refine JL_st (wants_none rfl) rfl (st_alloc zi_2 rfl) (fun b10 => ?_)
    refine JL_sk (wants_none rfl) (sk_store_bx' 0 ti_2 rfl rfl (fun w hh => cv_int) rfl rfl rfl rfl) ?_
    refine JL_nil ?_
    refine N_then ?_
    refine J_seq ?_
    refine J_region ?_
    refine JL_bnd fun r11 hr12 => ?_
    refine JL_call (wants_none rfl) rfl Try.call57 rfl (Ca_of0 fun w hh => c_impl_startOf _ w (fun _ hk => hk.elim) _ _ hr12) (fun _ => ?_)
    refine JL_q (wants_none rfl) rfl (ex_makeFunc rfl) ?_
    refine JL_inline (wants_none rfl) rfl Try.call74 rfl Try.func74 rfl Try.ntmps74 rfl rfl (fun K_ hK13 => ?_)
    refine J_seq ?_
    refine J_region ?_
    refine JL_st (wants_none rfl) rfl (st_box' rfl (fun w hh => (cv_aggs ⟨cv_int, cv_int, cv_int, cv_int, trivial⟩))) (fun b14 => ?_)
    refine JL_q (wants_none rfl) rfl (ex_assign rfl) ?_
    refine JL_q (wants_none rfl) rfl (ex_assign rfl) ?_
    refine JL_nil ?_
    refine N_then ?_
    refine J_seq ?_
    refine J_region ?_
    refine JL_q (wants_none rfl) rfl (ex_move rfl) ?_
    refine JL_q (wants_none rfl) rfl (ex_build si_28 rfl (.cons fi_28_0 rfl rfl .nil) (fun w hh => ⟨cv_int, trivial⟩)) ?_
    refine JL_st (wants_none rfl) rfl (st_makeMap (κ := GbitPlace) (ν := Int) (enc := GbitPlace.enc) (venc := (Value.int .i64))) (fun b15 => ?_)
    refine JL_q (wants_none rfl) rfl (ex_buildN [(0, .agg #[.int .i64 2, .int .i64 0, .slice none 0 0], [.int .i64 2, .int .i64 0, .slice none 0 0]), (2, .map (some b15), [.map (some b15)])] si_92 rfl (.cons fi_92_0 rfl rfl rfl (.cons fi_92_2 rfl rfl rfl .nil)) (fun w hh => ⟨(cv_aggs ⟨cv_int, cv_int, cv_slice, trivial⟩), cv_map, trivial⟩)) ?_
    refine JL_st (wants_none rfl) rfl (st_box' rfl (fun w hh => (cv_aggs ⟨cv_int, cv_int, cv_slice, cv_slice, cv_map, trivial⟩))) (fun b16 => ?_)
    refine JL_q (wants_none rfl) rfl (ex_assign rfl) ?_
    refine JL_nil ?_
    refine N_then ?_
    refine J_seq ?_
    refine J_region ?_
    refine JL_q (wants_none rfl) rfl (ex_move rfl) ?_
    refine JL_q (wants_none rfl) rfl (ex_load_bx_agg 2 ti_60 rfl rfl rfl rfl) ?_
    refine JL_inline (wants_none rfl) rfl Try.call96 rfl Try.func96 rfl Try.ntmps96 rfl rfl (fun K_ hK17 => ?_)
    refine J_seq ?_
    refine J_region ?_
    refine JL_st (wants_none rfl) rfl (st_box' rfl (fun w hh => (cv_aggs ⟨cv_int, cv_int, cv_int, cv_int, trivial⟩))) (fun b18 => ?_)
    refine JL_q (wants_none rfl) rfl (ex_assign rfl) ?_
    refine JL_nil ?_
    refine N_then ?_
    refine J_seq ?_
    refine J_draw [] (by kernel_rfl) ?_
    refine JP_take (i := 0) [0, 1, 2, 3, 4, 5, 6, 7, 8] [] rfl (by kernel_rfl) (by kernel_rfl) (by kernel_rfl) rfl rfl (wants_none rfl) rfl (ex_move rfl) ?_
    refine JP_take (i := 1) [0, 1, 2, 3, 4, 5, 6, 7, 8] [] rfl (by kernel_rfl) (by kernel_rfl) (by kernel_rfl) rfl rfl (wants_none rfl) rfl (ex_nilCheck rfl) ?_
    refine JP_take (i := 2) [0, 1, 2, 3, 4, 5, 6, 7, 8] [] rfl (by kernel_rfl) (by kernel_rfl) (by kernel_rfl) rfl rfl (wants_none rfl) rfl (ex_fieldAddr fi_92_2 rfl rfl) ?_
    refine JP_take (i := 3) [0, 1, 2, 3, 4, 5, 6, 7, 8] [] rfl (by kernel_rfl) (by kernel_rfl) (by kernel_rfl) rfl rfl (wants_none rfl) rfl (ex_load_bx 1 ti_90 rfl rfl rfl) ?_
    refine JP_take (i := 4) [0, 1, 2, 3, 4, 5, 6, 7, 8] [] rfl (by kernel_rfl) (by kernel_rfl) (by kernel_rfl) rfl rfl (wants_none rfl) rfl (ex_load_bx_agg 0 ti_60 rfl rfl rfl rfl) ?_
    refine JP_take (i := 5) [0, 1, 2, 3, 4, 5, 6, 7, 8] [] rfl (by kernel_rfl) (by kernel_rfl) (by kernel_rfl) rfl rfl (wants_none rfl) rfl (ex_lookup_ok (x := r11) (z := 0) 2 key_60 Try.underlying90 zi_2 rfl rfl rfl rfl rfl) ?_
    refine JP_take (i := 6) [0, 1, 2, 3, 4, 5, 6, 7, 8] [] rfl (by kernel_rfl) (by kernel_rfl) (by kernel_rfl) rfl rfl (wants_none rfl) rfl (ex_move rfl) ?_
    refine JP_take (i := 7) [0, 1, 2, 3, 4, 5, 6, 7, 8] [] rfl (by kernel_rfl) (by kernel_rfl) (by kernel_rfl) rfl rfl (wants_none rfl) rfl (ex_extract rfl rfl) ?_
    refine JP_take (i := 8) [0, 1, 2, 3, 4, 5, 6, 7, 8] [] rfl (by kernel_rfl) (by kernel_rfl) (by kernel_rfl) rfl rfl (wants_none rfl) rfl (ex_extract rfl rfl) ?_
    refine JP_take (i := 9) [0, 1, 2, 3, 4, 5, 6, 7, 8] [] rfl (by kernel_rfl) (by kernel_rfl) (by kernel_rfl) rfl rfl (wants_none rfl) rfl (ex_assign rfl) ?_
    refine JP_take (i := 10) [0, 1, 2, 3, 4, 5, 6, 7, 8] [] rfl (by kernel_rfl) (by kernel_rfl) (by kernel_rfl) rfl rfl (wants_none rfl) rfl (ex_assign rfl) ?_
    refine JP_go [] [] rfl rfl rfl (fun _ _ _ => ?_)
    refine JD_done (by kernel_rfl) ?_
    refine N_then ?_
    refine J_seq ?_
    refine J_cut' (S' := Int × (List GbitPlace) × List (GbitPlace × Int)) (G' := Value) (fun s19 g20 => [(5, .int .i64 s19.1)]) (fun s19 g20 => [.bx b2 28 [.int .i64 0, .int .i64 0, .slice none 0 0], .ow 60 g20 s19.2.1, mpf GbitPlace.enc (Value.int .i64) b15 s19.2.2, .bx b16 92 [.int .i64 2, .int .i64 0, .slice none 0 0, g20, .map (some b15)], .rd v0_0 p0.Rules, .bx b7 28 [.int .i64 p0.Symbols, .int .i64 p0.States, v0_0], .bx b10 2 [.int .i64 r8]]) ?_ (fun s19 g20 => ?_)
    · refine J_seq ?_
      refine J_region ?_
      refine JL_q (wants_none rfl) rfl (ex_move rfl) ?_
      refine JL_q (wants_none rfl) rfl (ex_not rfl) ?_
      refine JL_nil ?_
      refine N_then ?_
      refine J_if rfl (fun h21 => ?_) (fun h21 => ?_)
      · refine J_seq ?_
        refine J_region ?_
        refine JL_q (wants_none rfl) rfl (ex_move rfl) ?_
        refine JL_q (wants_none rfl) rfl (ex_nilCheck rfl) ?_
        refine JL_q (wants_none rfl) rfl (ex_fieldAddr fi_92_1 rfl rfl) ?_
        refine JL_q (wants_none rfl) rfl (ex_load_bx 1 ti_89 rfl rfl rfl) ?_
        refine JL_bnd fun r22 hr23 => ?_
        refine JL_call (wants_none rfl) rfl Try.call98 rfl (Ca_of0 fun w hh => c_impl_size_impl_bitPlace _ w (fun _ hk => hk.elim) _ _ rdNil _ hr23) (fun _ => ?_)
        refine JL_q (wants_none rfl) rfl (ex_assign rfl) ?_
        refine JL_nil ?_
        refine N_then ?_
        refine J_seq ?_
        refine J_draw [2] (by kernel_rfl) ?_
        refine JP_take (i := 0) [0, 1, 3, 4, 5, 6, 7, 8] [2] rfl (by kernel_rfl) (by kernel_rfl) (by kernel_rfl) rfl rfl (wants_none rfl) rfl (ex_move rfl) ?_
        refine JP_take (i := 1) [0, 1, 3, 4, 5, 6, 7, 8] [2] rfl (by kernel_rfl) (by kernel_rfl) (by kernel_rfl) rfl rfl (wants_none rfl) rfl (ex_nilCheck rfl) ?_
        refine JP_take (i := 2) [0, 1, 3, 4, 5, 6, 7, 8] [2] rfl (by kernel_rfl) (by kernel_rfl) (by kernel_rfl) rfl rfl (wants_none rfl) rfl (ex_fieldAddr fi_92_2 rfl rfl) ?_
        refine JP_take (i := 3) [0, 1, 3, 4, 5, 6, 7, 8] [2] rfl (by kernel_rfl) (by kernel_rfl) (by kernel_rfl) rfl rfl (wants_none rfl) rfl (ex_load_bx 1 ti_90 rfl rfl rfl) ?_
        refine JP_take (i := 4) [0, 1, 3, 4, 5, 6, 7, 8] [2] rfl (by kernel_rfl) (by kernel_rfl) (by kernel_rfl) rfl rfl (wants_none rfl) rfl (ex_load_bx_agg 0 ti_60 rfl rfl rfl rfl) ?_
        refine JP_take (i := 5) [0, 1, 3, 4, 5, 6, 7, 8] [2] rfl (by kernel_rfl) (by kernel_rfl) (by kernel_rfl) rfl rfl (wants_none rfl) rfl (ex_move rfl) ?_
        refine JP_go [0, 1, 3, 4, 5, 6, 7, 8] [2] rfl rfl rfl (fun w25 h1_26 hp24 => ?_)
        refine JD_one (i := 6) (by kernel_rfl) ?_
        refine JO_sk rfl (wants_none rfl) (sk_mapUpdate (x := r11) (y := r22) 2 key_60 Try.underlying90 rfl rfl rfl rfl rfl rfl rfl rfl) (sub_mp 0 rfl) ?_
        refine JD_done (by kernel_rfl) ?_
        refine N_then ?_
        refine J_draw [1] (by kernel_rfl) ?_
        refine JP_take (i := 0) [0, 2, 3, 4, 5, 6, 7, 8] [1] rfl (by kernel_rfl) (by kernel_rfl) (by kernel_rfl) rfl rfl (wants_none rfl) rfl (ex_move rfl) ?_
        refine JP_take (i := 1) [0, 2, 3, 4, 5, 6, 7, 8] [1] rfl (by kernel_rfl) (by kernel_rfl) (by kernel_rfl) rfl rfl (wants_none rfl) rfl (ex_move rfl) ?_
        refine JP_take (i := 2) [0, 2, 3, 4, 5, 6, 7, 8] [1] rfl (by kernel_rfl) (by kernel_rfl) (by kernel_rfl) rfl rfl (wants_none rfl) rfl (ex_nilCheck rfl) ?_
        refine JP_take (i := 3) [0, 2, 3, 4, 5, 6, 7, 8] [1] rfl (by kernel_rfl) (by kernel_rfl) (by kernel_rfl) rfl rfl (wants_none rfl) rfl (ex_fieldAddr fi_92_1 rfl rfl) ?_
        refine JP_take (i := 5) [0, 2, 3, 4, 5, 6, 7, 8] [1] rfl (by kernel_rfl) (by kernel_rfl) (by kernel_rfl) rfl rfl (wants_none rfl) rfl (ex_load_bx_agg 0 ti_60 rfl rfl rfl rfl) ?_
        refine JP_go [0, 2, 3, 4, 5, 6, 7, 8] [1] rfl rfl rfl (fun w28 h1_29 hp27 => ?_)
        refine JD_two (i := 4) (j := 6) (by kernel_rfl) ?_ ?_
        · refine JO_q rfl (wants_none rfl) rfl (ex_load_bx 1 ti_89 rfl rfl rfl) ?_
          refine JD_one (i := 6) (by kernel_rfl) ?_
          refine JO_st rfl (wants_none rfl) rfl (st_buildSlice (vs := [.agg #[.int .i64 r11.kind, .int .i64 r11.a, .int .i64 r11.b, .int .i64 r11.c]]) ([r11] : List GbitPlace) Try.underlying89 ti_60 zi_60 rfl rfl rfl (fun w hh => ⟨(GbitPlace.rdmk (Rd.mk_int _ _ _) (Rd.mk_int _ _ _) (Rd.mk_int _ _ _) (Rd.mk_int _ _ _)), trivial⟩)) (fun _ hk => nomatch hk) (fun b30 => ?_)
          refine JD_bnd fun z31 hz32 => ?_
          refine JD_one (i := 7) (by kernel_rfl) ?_
          refine JO_ctx (fun w hh => SH.ow_nil (α := GbitPlace) 60 hh) (fun _ hb => hb) ?_
          refine JO_st2 0 [1] [0, 2, 3, 4, 5, 6, 7, 8] [2, 4, 5, 6, 7, 8, 9, 10] rfl rfl rfl rfl rfl rfl (wants_none rfl) rfl (st_append 0 Try.underlying89 ti_60 zi_60 rfl bi_60 rfl rfl rfl rfl (fun w hh => hh.src_ow 1 rfl) hz32) (fun _ hk => hk) (fun v33 => ?_)
          refine JD_take (i := 8) hp27 rfl (by kernel_rfl) (by kernel_rfl) (by kernel_rfl) (wants_none rfl) rfl (ex_nilCheck rfl) ?_
          refine JD_take (i := 9) hp27 rfl (by kernel_rfl) (by kernel_rfl) (by kernel_rfl) (wants_none rfl) rfl (ex_fieldAddr fi_92_1 rfl rfl) ?_
          refine JD_one (i := 10) (by kernel_rfl) ?_
          refine JO_sk rfl (wants_none rfl) (sk_store_bx' 3 ti_89 rfl rfl (fun w hh => (hh.cv_ow 0 rfl)) rfl rfl rfl rfl) (sub_bx 0 rfl) ?_
          refine JD_done (by kernel_rfl) ?_
          exact N_meet' v33 ⟨rfl, trivial⟩ [8, 0, 4, 3, 10, 7, 6] rfl rfl
        · refine JO_st rfl (wants_none rfl) rfl (st_buildSlice (vs := [.agg #[.int .i64 r11.kind, .int .i64 r11.a, .int .i64 r11.b, .int .i64 r11.c]]) ([r11] : List GbitPlace) Try.underlying89 ti_60 zi_60 rfl rfl rfl (fun w hh => ⟨(GbitPlace.rdmk (Rd.mk_int _ _ _) (Rd.mk_int _ _ _) (Rd.mk_int _ _ _) (Rd.mk_int _ _ _)), trivial⟩)) (fun _ hk => nomatch hk) (fun b34 => ?_)
          refine JD_one (i := 4) (by kernel_rfl) ?_
          refine JO_q rfl (wants_none rfl) rfl (ex_load_bx 2 ti_89 rfl rfl rfl) ?_
          refine JD_bnd fun z35 hz36 => ?_
          refine JD_one (i := 7) (by kernel_rfl) ?_
          refine JO_ctx (fun w hh => SH.ow_nil (α := GbitPlace) 60 hh) (fun _ hb => hb) ?_
          refine JO_st2 0 [1] [0, 2, 3, 4, 5, 6, 7, 8] [2, 4, 5, 6, 7, 8, 9, 10] rfl rfl rfl rfl rfl rfl (wants_none rfl) rfl (st_append 0 Try.underlying89 ti_60 zi_60 rfl bi_60 rfl rfl rfl rfl (fun w hh => hh.src_ow 1 rfl) hz36) (fun _ hk => hk) (fun v37 => ?_)
          refine JD_take (i := 8) hp27 rfl (by kernel_rfl) (by kernel_rfl) (by kernel_rfl) (wants_none rfl) rfl (ex_nilCheck rfl) ?_
          refine JD_take (i := 9) hp27 rfl (by kernel_rfl) (by kernel_rfl) (by kernel_rfl) (wants_none rfl) rfl (ex_fieldAddr fi_92_1 rfl rfl) ?_
          refine JD_one (i := 10) (by kernel_rfl) ?_
          refine JO_sk rfl (wants_none rfl) (sk_store_bx' 3 ti_89 rfl rfl (fun w hh => (hh.cv_ow 0 rfl)) rfl rfl rfl rfl) (sub_bx 0 rfl) ?_
          refine JD_done (by kernel_rfl) ?_
          exact N_meet' v37 ⟨rfl, trivial⟩ [8, 0, 4, 3, 10, 7, 6] rfl rfl
      · refine J_skip ?_
        refine N_ctx (fun w hh => SH.ow_nil (α := GbitPlace) 60 hh) ?_
        exact N_meet' (.slice none 0 0 : Value) ⟨rfl, trivial⟩ [7, 0, 3, 2, 9, 6, 5] rfl rfl
    · refine N_then ?_
      refine J_seq ?_
      refine J_region ?_
      refine JL_q (wants_none rfl) rfl (ex_move rfl) ?_
      refine JL_q (wants_none rfl) rfl (ex_assign rfl) ?_
      refine JL_nil ?_
      refine N_then ?_
      refine J_ret ?_
      refine N_inl1 hK17 rfl (rv_tmp rfl) ?_
      refine JL_nil ?_
      refine N_then ?_
      refine J_seq ?_
      refine J_seq ?_
      refine J_region ?_
      refine JL_q (wants_none rfl) rfl (ex_assign rfl) ?_
      refine JL_nil ?_
      refine N_then ?_
      refine J_ctx (fun w hh => SH.ow_nil (α := GRule) 97 hh) ?_
      refine J_loop' (S := (List GRule) × (List GbitPlace) × List (GbitPlace × Int) × Int) (G := Value × Value) (F_impl_BinaryMachine_L1 p0 r8) (fun s38 g39 => [(0, .int .i64 2), (2, .func (.func 75) #[] #[.pointer (some ⟨b7, 0, none⟩), .pointer (some ⟨b10, 0, none⟩)]), (8, .pointer (some ⟨b16, 0, none⟩)), (9, .int .i64 s38.2.2.2)]) (fun s38 g39 => [.rd v0_0 p0.Rules, .bx b7 28 [.int .i64 p0.Symbols, .int .i64 p0.States, v0_0], .bx b10 2 [.int .i64 r8], .ow 97 g39.1 s38.1, .ow 60 g39.2 s38.2.1, mpf GbitPlace.enc (Value.int .i64) b15 s38.2.2.1, .bx b16 92 [.int .i64 2, .int .i64 0, g39.1, g39.2, .map (some b15)], .bx b2 28 [.int .i64 0, .int .i64 0, .slice none 0 0]]) (([] : (List GRule)), s19.2.1, s19.2.2, 0) ((.slice none 0 0 : Value), g20) ⟨rfl, rfl, rfl, rfl, trivial⟩ [5, 6, 7, 0, 2, 3, 4, 1] rfl rfl (fun s38 g39 => ?_) (fun s38 g39 => ?_)
      · obtain ⟨g39_0, g39_1⟩ := g39
        unfold F_impl_BinaryMachine_L1
        refine J_seq ?_
        refine J_seq ?_
        refine J_region ?_
        refine JL_q (wants_none rfl) rfl (ex_move rfl) ?_
        refine JL_q (wants_none rfl) rfl (ex_move rfl) ?_
        refine JL_q (wants_none rfl) rfl (ex_nilCheck rfl) ?_
        refine JL_q (wants_none rfl) rfl (ex_fieldAddr fi_92_1 rfl rfl) ?_
        refine JL_q (wants_none rfl) rfl (ex_load_bx 6 ti_89 rfl rfl rfl) ?_
        refine JL_q (wants_none rfl) rfl (ex_len_ow 4 Try.underlying89 rfl rfl) ?_
        refine JL_q (wants_none rfl) rfl (ex_lss rfl rfl) ?_
        refine JL_nil ?_
        refine N_then ?_
        refine J_if rfl (fun h40 => ?_) (fun h40 => ?_)
        · refine J_skip ?_
          refine N_then ?_
          refine J_seq ?_
          refine J_block ?_
          refine J_seq ?_
          refine J_seq ?_
          refine J_region ?_
          refine JL_q (wants_none rfl) rfl (ex_move rfl) ?_
          refine JL_q (wants_none rfl) rfl (ex_move rfl) ?_
          refine JL_nil ?_
          refine N_then ?_
          refine J_loop' (S := (List GRule) × (List GbitPlace) × List (GbitPlace × Int) × Int) (G := Value × Value) (F_impl_BinaryMachine_L2 p0 r8 s38) (fun s41 g42 => [(0, .int .i64 2), (2, .func (.func 75) #[] #[.pointer (some ⟨b7, 0, none⟩), .pointer (some ⟨b10, 0, none⟩)]), (8, .pointer (some ⟨b16, 0, none⟩)), (9, .int .i64 s38.2.2.2), (30, .int .i64 2), (31, .int .i64 s41.2.2.2)]) (fun s41 g42 => [.rd v0_0 p0.Rules, .bx b7 28 [.int .i64 p0.Symbols, .int .i64 p0.States, v0_0], .bx b10 2 [.int .i64 r8], .ow 97 g42.1 s41.1, .ow 60 g42.2 s41.2.1, mpf GbitPlace.enc (Value.int .i64) b15 s41.2.2.1, .bx b16 92 [.int .i64 2, .int .i64 0, g42.1, g42.2, .map (some b15)], .bx b2 28 [.int .i64 0, .int .i64 0, .slice none 0 0]]) (s38.1, s38.2.1, s38.2.2.1, 0) (g39_0, g39_1) ⟨rfl, rfl, rfl, rfl, rfl, rfl, trivial⟩ [0, 1, 2, 3, 4, 5, 6, 7] rfl rfl (fun s41 g42 => ?_) (fun s41 g42 => ?_)
          · obtain ⟨g42_0, g42_1⟩ := g42
            unfold F_impl_BinaryMachine_L2
            refine J_seq ?_
            refine J_region ?_
            refine JL_q (wants_none rfl) rfl (ex_lss rfl rfl) ?_
            refine JL_nil ?_
            refine N_then ?_
            refine J_seq ?_
            refine J_if rfl (fun h43 => ?_) (fun h43 => ?_)
            · refine J_skip ?_
              refine N_then ?_
              refine J_seq ?_
              refine J_block ?_
              refine J_seq ?_
              refine J_region ?_
              refine JL_q (wants_none rfl) rfl (ex_move rfl) ?_
              refine JL_q (wants_none rfl) rfl (ex_assign rfl) ?_
              refine JL_nil ?_
              refine N_then ?_
              refine J_seq ?_
              refine J_region ?_
              refine JL_bnd fun r44 hr45 => ?_
              refine JL_call (wants_none rfl) rfl Try.call97 rfl (Ca_of0 fun w hh => c_impl_noRule _ w (fun _ hk => hk.elim)  _ hr45) (fun _ => ?_)
              refine JL_st (wants_none rfl) rfl (st_alloc zi_97 rfl) (fun b46 => ?_)
              refine JL_sk (wants_none rfl) (sk_store_bx' 0 ti_97 rfl rfl (fun w hh => (cv_aggs ⟨cv_int, cv_int, cv_int, trivial⟩)) rfl rfl rfl rfl) ?_
              refine JL_nil ?_
              refine N_then ?_
              refine J_seq ?_
              refine J_cut' (S' := (List GbitPlace) × List (GbitPlace × Int) × Int × Int × Int) (G' := Value) (fun s47 g48 => [(0, .int .i64 2), (2, .func (.func 75) #[] #[.pointer (some ⟨b7, 0, none⟩), .pointer (some ⟨b10, 0, none⟩)]), (8, .pointer (some ⟨b16, 0, none⟩)), (9, .int .i64 s38.2.2.2), (11, .pointer (some ⟨b46, 0, none⟩)), (30, .int .i64 2), (31, .int .i64 s41.2.2.2)]) (fun s47 g48 => [.rd v0_0 p0.Rules, .bx b7 28 [.int .i64 p0.Symbols, .int .i64 p0.States, v0_0], .bx b10 2 [.int .i64 r8], .ow 97 g42_0 s41.1, .ow 60 g48 s47.1, mpf GbitPlace.enc (Value.int .i64) b15 s47.2.1, .bx b16 92 [.int .i64 2, .int .i64 0, g42_0, g48, .map (some b15)], .bx b46 97 [.int .i64 s47.2.2.1, .int .i64 s47.2.2.2.1, .int .i64 s47.2.2.2.2], .bx b2 28 [.int .i64 0, .int .i64 0, .slice none 0 0]]) ?_ (fun s47 g48 => ?_)
              · refine J_seq ?_
                refine J_region ?_
                refine JL_q (wants_none rfl) rfl (ex_move rfl) ?_
                refine JL_q (wants_none rfl) rfl (ex_move rfl) ?_
                refine JL_q (wants_none rfl) rfl (ex_nilCheck rfl) ?_
                refine JL_q (wants_none rfl) rfl (ex_fieldAddr fi_92_1 rfl rfl) ?_
                refine JL_q (wants_none rfl) rfl (ex_load_bx 7 ti_89 rfl rfl rfl) ?_
                refine JL_q (wants_none rfl) rfl (ex_move rfl) ?_
                refine JL_bnd fun y49 hy50 => ?_
                refine JL_ow_open (v := g42_1) 5 rfl hy50 ?_; rintro b51 cap52 rfl
                refine JL_q (wants_none rfl) rfl (ex_index_ow 5 Try.underlying89 ti_60 rfl rfl rfl hy50) ?_
                refine JL_st (wants_none rfl) rfl (st_load_ow_o 5 (GbitPlace.opens _) ti_60 rfl rfl hy50) (fun _ => ?_)
                refine JL_q (wants_none rfl) rfl (ex_move rfl) ?_
                refine JL_bnd fun r54 hr55 => ?_
                refine JL_callv (args := [_, _]) (caps := [.pointer (some ⟨b7, 0, none⟩), .pointer (some ⟨b10, 0, none⟩)]) (wants_none rfl) rfl Try.call75 rfl rfl (Ca_of0 fun w hh => c_impl_binary_1 nowhere w (fun _ hk => hk.elim) _ _ (GbitPlace.rdmk (Rd.mk_int _ _ _) (Rd.mk_int _ _ _) (Rd.mk_int _ _ _) (Rd.mk_int _ _ _)) _ _ _ (hh.bx_pa 2 rfl (GMachine.rdmk (Rd.mk_int _ _ _) (Rd.mk_int _ _ _) (hh.rd0 1 rfl)) rfl) _ _ (hh.bx_pa1 3 rfl (Rd.mk_int _ _ _) rfl rfl) _ hr55) (fun _ => ?_)
                refine JL_st (wants_none rfl) rfl (st_alloc zi_107 rfl) (fun b56 => ?_)
                refine JL_sk (wants_none rfl) (sk_store_bx' 0 ti_107 rfl rfl (fun w hh => (cv_aggs ⟨cv_int, cv_int, cv_int, cv_int, cv_int, cv_int, cv_bool, trivial⟩)) rfl rfl rfl rfl) ?_
                refine JL_nil ?_
                refine N_then ?_
                refine J_seq ?_
                refine J_region ?_
                refine JL_q (wants_none rfl) rfl (ex_fieldAddr fi_107_3 rfl rfl) ?_
                refine JL_q (wants_none rfl) rfl (ex_load_bx 0 ti_4 rfl rfl rfl) ?_
                refine JL_q (wants_none rfl) rfl (ex_not rfl) ?_
                refine JL_nil ?_
                refine N_then ?_
                refine J_if rfl (fun h57 => ?_) (fun h57 => ?_)
                · refine J_draw [1, 5, 6, 7, 8] (by kernel_rfl) ?_
                  refine JP_take (i := 0) [0, 2, 3, 4, 9] [1, 5, 6, 7, 8] rfl (by kernel_rfl) (by kernel_rfl) (by kernel_rfl) rfl rfl (wants_none rfl) rfl (ex_fieldAddr fi_107_0 rfl rfl) ?_
                  refine JP_take (i := 1) [0, 2, 3, 4, 9] [1, 5, 6, 7, 8] rfl (by kernel_rfl) (by kernel_rfl) (by kernel_rfl) rfl rfl (wants_none rfl) rfl (ex_load_bx 0 ti_2 rfl rfl rfl) ?_
                  refine JP_take (i := 2) [0, 2, 3, 4, 9] [1, 5, 6, 7, 8] rfl (by kernel_rfl) (by kernel_rfl) (by kernel_rfl) rfl rfl (wants_none rfl) rfl (ex_fieldAddr fi_107_1 rfl rfl) ?_
                  refine JP_take (i := 3) [0, 2, 3, 4, 9] [1, 5, 6, 7, 8] rfl (by kernel_rfl) (by kernel_rfl) (by kernel_rfl) rfl rfl (wants_none rfl) rfl (ex_load_bx 0 ti_2 rfl rfl rfl) ?_
                  refine JP_take (i := 4) [0, 2, 3, 4, 9] [1, 5, 6, 7, 8] rfl (by kernel_rfl) (by kernel_rfl) (by kernel_rfl) rfl rfl (wants_none rfl) rfl (ex_move rfl) ?_
                  refine JP_take (i := 5) [0, 2, 3, 4, 9] [1, 5, 6, 7, 8] rfl (by kernel_rfl) (by kernel_rfl) (by kernel_rfl) rfl rfl (wants_none rfl) rfl (ex_fieldAddr fi_107_2 rfl rfl) ?_
                  refine JP_take (i := 6) [0, 2, 3, 4, 9] [1, 5, 6, 7, 8] rfl (by kernel_rfl) (by kernel_rfl) (by kernel_rfl) rfl rfl (wants_none rfl) rfl (ex_load_bx_agg 0 ti_60 rfl rfl rfl rfl) ?_
                  refine JP_go [0, 2, 3, 4, 9] [1, 5, 6, 7, 8] rfl rfl rfl (fun w59 h1_60 hp58 => ?_)
                  refine JD_one (i := 7) (by kernel_rfl) ?_
                  refine JO_inline h1_60 [1, 5, 6, 7, 8] [0, 3, 4, 9] rfl rfl rfl rfl (wants_none rfl) rfl Try.call96 rfl Try.func96 rfl Try.ntmps96 rfl rfl (fun C62 K_ hK61 => ?_)
                  refine J_seq ?_
                  refine J_region ?_
                  refine JL_st (wants_none rfl) rfl (st_box' rfl (fun w hh => (cv_aggs ⟨cv_int, cv_int, cv_int, cv_int, trivial⟩))) (fun b63 => ?_)
                  refine JL_q (wants_none rfl) rfl (ex_assign rfl) ?_
                  refine JL_nil ?_
                  refine N_then ?_
                  refine J_seq ?_
                  refine J_draw [] (by kernel_rfl) ?_
                  refine JP_take (i := 0) [0, 1, 2, 3, 4, 5, 6, 7, 8, 9, 10, 11] [] rfl (by kernel_rfl) (by kernel_rfl) (by kernel_rfl) rfl rfl (wants_none rfl) rfl (ex_move rfl) ?_
                  refine JP_take (i := 1) [0, 1, 2, 3, 4, 5, 6, 7, 8, 9, 10, 11] [] rfl (by kernel_rfl) (by kernel_rfl) (by kernel_rfl) rfl rfl (wants_none rfl) rfl (ex_nilCheck rfl) ?_
                  refine JP_take (i := 2) [0, 1, 2, 3, 4, 5, 6, 7, 8, 9, 10, 11] [] rfl (by kernel_rfl) (by kernel_rfl) (by kernel_rfl) rfl rfl (wants_none rfl) rfl (ex_fieldAddr fi_92_2 rfl rfl) ?_
                  refine JP_take (i := 3) [0, 1, 2, 3, 4, 5, 6, 7, 8, 9, 10, 11] [] rfl (by kernel_rfl) (by kernel_rfl) (by kernel_rfl) rfl rfl (wants_none rfl) rfl (ex_load_bx 10 ti_90 rfl rfl rfl) ?_
                  refine JP_take (i := 4) [0, 1, 2, 3, 4, 5, 6, 7, 8, 9, 10, 11] [] rfl (by kernel_rfl) (by kernel_rfl) (by kernel_rfl) rfl rfl (wants_none rfl) rfl (ex_load_bx_agg 0 ti_60 rfl rfl rfl rfl) ?_
                  refine JP_take (i := 5) [0, 1, 2, 3, 4, 5, 6, 7, 8, 9, 10, 11] [] rfl (by kernel_rfl) (by kernel_rfl) (by kernel_rfl) rfl rfl (wants_none rfl) rfl (ex_lookup_ok (x := (⟨r54.next_kind, r54.next_a, r54.next_b, r54.next_c⟩ : GbitPlace)) (z := 0) 9 key_60 Try.underlying90 zi_2 rfl rfl rfl rfl rfl) ?_
                  refine JP_take (i := 6) [0, 1, 2, 3, 4, 5, 6, 7, 8, 9, 10, 11] [] rfl (by kernel_rfl) (by kernel_rfl) (by kernel_rfl) rfl rfl (wants_none rfl) rfl (ex_move rfl) ?_
                  refine JP_take (i := 7) [0, 1, 2, 3, 4, 5, 6, 7, 8, 9, 10, 11] [] rfl (by kernel_rfl) (by kernel_rfl) (by kernel_rfl) rfl rfl (wants_none rfl) rfl (ex_extract rfl rfl) ?_
                  refine JP_take (i := 8) [0, 1, 2, 3, 4, 5, 6, 7, 8, 9, 10, 11] [] rfl (by kernel_rfl) (by kernel_rfl) (by kernel_rfl) rfl rfl (wants_none rfl) rfl (ex_extract rfl rfl) ?_
                  refine JP_take (i := 9) [0, 1, 2, 3, 4, 5, 6, 7, 8, 9, 10, 11] [] rfl (by kernel_rfl) (by kernel_rfl) (by kernel_rfl) rfl rfl (wants_none rfl) rfl (ex_assign rfl) ?_
                  refine JP_take (i := 10) [0, 1, 2, 3, 4, 5, 6, 7, 8, 9, 10, 11] [] rfl (by kernel_rfl) (by kernel_rfl) (by kernel_rfl) rfl rfl (wants_none rfl) rfl (ex_assign rfl) ?_
                  refine JP_go [] [] rfl rfl rfl (fun _ _ _ => ?_)
                  refine JD_done (by kernel_rfl) ?_
                  refine N_then ?_
                  refine J_seq ?_
                  refine J_seq ?_
                  refine J_region ?_
                  refine JL_q (wants_none rfl) rfl (ex_move rfl) ?_
                  refine JL_q (wants_none rfl) rfl (ex_not rfl) ?_
                  refine JL_nil ?_
                  refine N_then ?_
                  refine J_if rfl (fun h64 => ?_) (fun h64 => ?_)
                  · refine J_seq ?_
                    refine J_region ?_
                    refine JL_q (wants_none rfl) rfl (ex_move rfl) ?_
                    refine JL_q (wants_none rfl) rfl (ex_nilCheck rfl) ?_
                    refine JL_q (wants_none rfl) rfl (ex_fieldAddr fi_92_1 rfl rfl) ?_
                    refine JL_q (wants_none rfl) rfl (ex_load_bx 10 ti_89 rfl rfl rfl) ?_
                    refine JL_bnd fun r65 hr66 => ?_
                    refine JL_call (wants_none rfl) rfl Try.call98 rfl (Ca_of0 fun w hh => c_impl_size_impl_bitPlace _ w (fun _ hk => hk.elim) _ _ (hh.ow0 8 rfl) _ hr66) (fun _ => ?_)
                    refine JL_q (wants_none rfl) rfl (ex_assign rfl) ?_
                    refine JL_nil ?_
                    refine N_then ?_
                    refine J_seq ?_
                    refine J_draw [9] (by kernel_rfl) ?_
                    refine JP_take (i := 0) [0, 1, 2, 3, 4, 5, 6, 7, 8, 10, 11] [9] rfl (by kernel_rfl) (by kernel_rfl) (by kernel_rfl) rfl rfl (wants_none rfl) rfl (ex_move rfl) ?_
                    refine JP_take (i := 1) [0, 1, 2, 3, 4, 5, 6, 7, 8, 10, 11] [9] rfl (by kernel_rfl) (by kernel_rfl) (by kernel_rfl) rfl rfl (wants_none rfl) rfl (ex_nilCheck rfl) ?_
                    refine JP_take (i := 2) [0, 1, 2, 3, 4, 5, 6, 7, 8, 10, 11] [9] rfl (by kernel_rfl) (by kernel_rfl) (by kernel_rfl) rfl rfl (wants_none rfl) rfl (ex_fieldAddr fi_92_2 rfl rfl) ?_
                    refine JP_take (i := 3) [0, 1, 2, 3, 4, 5, 6, 7, 8, 10, 11] [9] rfl (by kernel_rfl) (by kernel_rfl) (by kernel_rfl) rfl rfl (wants_none rfl) rfl (ex_load_bx 9 ti_90 rfl rfl rfl) ?_
                    refine JP_take (i := 4) [0, 1, 2, 3, 4, 5, 6, 7, 8, 10, 11] [9] rfl (by kernel_rfl) (by kernel_rfl) (by kernel_rfl) rfl rfl (wants_none rfl) rfl (ex_load_bx_agg 0 ti_60 rfl rfl rfl rfl) ?_
                    refine JP_take (i := 5) [0, 1, 2, 3, 4, 5, 6, 7, 8, 10, 11] [9] rfl (by kernel_rfl) (by kernel_rfl) (by kernel_rfl) rfl rfl (wants_none rfl) rfl (ex_move rfl) ?_
                    refine JP_go [0, 1, 2, 3, 4, 5, 6, 7, 8, 10, 11] [9] rfl rfl rfl (fun w68 h1_69 hp67 => ?_)
                    refine JD_one (i := 6) (by kernel_rfl) ?_
                    refine JO_sk rfl (wants_none rfl) (sk_mapUpdate (x := (⟨r54.next_kind, r54.next_a, r54.next_b, r54.next_c⟩ : GbitPlace)) (y := r65) 9 key_60 Try.underlying90 rfl rfl rfl rfl rfl rfl rfl rfl) (sub_mp 0 rfl) ?_
                    refine JD_done (by kernel_rfl) ?_
                    refine N_then ?_
                    refine J_draw [8, 10] (by kernel_rfl) ?_
                    refine JP_take (i := 0) [0, 1, 2, 3, 4, 5, 6, 7, 9, 11] [8, 10] rfl (by kernel_rfl) (by kernel_rfl) (by kernel_rfl) rfl rfl (wants_none rfl) rfl (ex_move rfl) ?_
                    refine JP_take (i := 1) [0, 1, 2, 3, 4, 5, 6, 7, 9, 11] [8, 10] rfl (by kernel_rfl) (by kernel_rfl) (by kernel_rfl) rfl rfl (wants_none rfl) rfl (ex_move rfl) ?_
                    refine JP_take (i := 2) [0, 1, 2, 3, 4, 5, 6, 7, 9, 11] [8, 10] rfl (by kernel_rfl) (by kernel_rfl) (by kernel_rfl) rfl rfl (wants_none rfl) rfl (ex_nilCheck rfl) ?_
                    refine JP_take (i := 3) [0, 1, 2, 3, 4, 5, 6, 7, 9, 11] [8, 10] rfl (by kernel_rfl) (by kernel_rfl) (by kernel_rfl) rfl rfl (wants_none rfl) rfl (ex_fieldAddr fi_92_1 rfl rfl) ?_
                    refine JP_take (i := 5) [0, 1, 2, 3, 4, 5, 6, 7, 9, 11] [8, 10] rfl (by kernel_rfl) (by kernel_rfl) (by kernel_rfl) rfl rfl (wants_none rfl) rfl (ex_load_bx_agg 0 ti_60 rfl rfl rfl rfl) ?_
                    refine JP_go [0, 1, 2, 3, 4, 5, 6, 7, 9, 11] [8, 10] rfl rfl rfl (fun w71 h1_72 hp70 => ?_)
                    refine JD_two (i := 4) (j := 6) (by kernel_rfl) ?_ ?_
                    · refine JO_q rfl (wants_none rfl) rfl (ex_load_bx 10 ti_89 rfl rfl rfl) ?_
                      refine JD_one (i := 6) (by kernel_rfl) ?_
                      refine JO_st rfl (wants_none rfl) rfl (st_buildSlice (vs := [.agg #[.int .i64 r54.next_kind, .int .i64 r54.next_a, .int .i64 r54.next_b, .int .i64 r54.next_c]]) ([(⟨r54.next_kind, r54.next_a, r54.next_b, r54.next_c⟩ : GbitPlace)] : List GbitPlace) Try.underlying89 ti_60 zi_60 rfl rfl rfl (fun w hh => ⟨(GbitPlace.rdmk (Rd.mk_int _ _ _) (Rd.mk_int _ _ _) (Rd.mk_int _ _ _) (Rd.mk_int _ _ _)), trivial⟩)) (fun _ hk => nomatch hk) (fun b73 => ?_)
                      refine JD_bnd fun z74 hz75 => ?_
                      refine JD_one (i := 7) (by kernel_rfl) ?_
                      refine JO_st rfl (wants_none rfl) rfl (st_append 9 Try.underlying89 ti_60 zi_60 rfl bi_60 rfl rfl rfl rfl (fun w hh => hh.src_ow 0 rfl) hz75) (sub_ow 0 rfl) (fun v76 => ?_)
                      refine JD_take (i := 8) hp70 rfl (by kernel_rfl) (by kernel_rfl) (by kernel_rfl) (wants_none rfl) rfl (ex_nilCheck rfl) ?_
                      refine JD_take (i := 9) hp70 rfl (by kernel_rfl) (by kernel_rfl) (by kernel_rfl) (wants_none rfl) rfl (ex_fieldAddr fi_92_1 rfl rfl) ?_
                      refine JD_one (i := 10) (by kernel_rfl) ?_
                      refine JO_sk rfl (wants_none rfl) (sk_store_bx' 11 ti_89 rfl rfl (fun w hh => (hh.cv_ow 9 rfl)) rfl rfl rfl rfl) (sub_bx 1 rfl) ?_
                      refine JD_done (by kernel_rfl) ?_
                      refine N_then ?_
                      refine J_seq ?_
                      refine J_region ?_
                      refine JL_q (wants_none rfl) rfl (ex_move rfl) ?_
                      refine JL_q (wants_none rfl) rfl (ex_assign rfl) ?_
                      refine JL_nil ?_
                      refine N_then ?_
                      refine J_ret ?_
                      refine N_inlD1 hK61 rfl (rv_tmp rfl) 2 [3, 6, 7, 12] rfl rfl ?_
                      refine JD_take (i := 8) hp58 rfl (by kernel_rfl) (by kernel_rfl) (by kernel_rfl) (wants_none rfl) rfl (ex_build si_97 rfl (.cons fi_97_0 rfl rfl (.cons fi_97_1 rfl rfl (.cons fi_97_2 rfl rfl .nil))) (fun w hh => ⟨cv_int, cv_int, cv_int, trivial⟩)) ?_
                      refine JD_one (i := 9) (by kernel_rfl) ?_
                      refine JO_sk rfl (wants_none rfl) (sk_store_bx' 4 ti_97 rfl rfl (fun w hh => (cv_aggs ⟨cv_int, cv_int, cv_int, trivial⟩)) rfl rfl rfl rfl) (sub_bx 0 rfl) ?_
                      refine JD_done (by kernel_rfl) ?_
                      exact N_meet' v76 ⟨rfl, rfl, rfl, rfl, rfl, rfl, rfl, trivial⟩ [5, 6, 7, 8, 9, 10, 11, 4, 12] rfl rfl
                    · refine JO_st rfl (wants_none rfl) rfl (st_buildSlice (vs := [.agg #[.int .i64 r54.next_kind, .int .i64 r54.next_a, .int .i64 r54.next_b, .int .i64 r54.next_c]]) ([(⟨r54.next_kind, r54.next_a, r54.next_b, r54.next_c⟩ : GbitPlace)] : List GbitPlace) Try.underlying89 ti_60 zi_60 rfl rfl rfl (fun w hh => ⟨(GbitPlace.rdmk (Rd.mk_int _ _ _) (Rd.mk_int _ _ _) (Rd.mk_int _ _ _) (Rd.mk_int _ _ _)), trivial⟩)) (fun _ hk => nomatch hk) (fun b77 => ?_)
                      refine JD_one (i := 4) (by kernel_rfl) ?_
                      refine JO_q rfl (wants_none rfl) rfl (ex_load_bx 11 ti_89 rfl rfl rfl) ?_
                      refine JD_bnd fun z78 hz79 => ?_
                      refine JD_one (i := 7) (by kernel_rfl) ?_
                      refine JO_st rfl (wants_none rfl) rfl (st_append 9 Try.underlying89 ti_60 zi_60 rfl bi_60 rfl rfl rfl rfl (fun w hh => hh.src_ow 0 rfl) hz79) (sub_ow 0 rfl) (fun v80 => ?_)
                      refine JD_take (i := 8) hp70 rfl (by kernel_rfl) (by kernel_rfl) (by kernel_rfl) (wants_none rfl) rfl (ex_nilCheck rfl) ?_
                      refine JD_take (i := 9) hp70 rfl (by kernel_rfl) (by kernel_rfl) (by kernel_rfl) (wants_none rfl) rfl (ex_fieldAddr fi_92_1 rfl rfl) ?_
                      refine JD_one (i := 10) (by kernel_rfl) ?_
                      refine JO_sk rfl (wants_none rfl) (sk_store_bx' 11 ti_89 rfl rfl (fun w hh => (hh.cv_ow 9 rfl)) rfl rfl rfl rfl) (sub_bx 1 rfl) ?_
                      refine JD_done (by kernel_rfl) ?_
                      refine N_then ?_
                      refine J_seq ?_
                      refine J_region ?_
                      refine JL_q (wants_none rfl) rfl (ex_move rfl) ?_
                      refine JL_q (wants_none rfl) rfl (ex_assign rfl) ?_
                      refine JL_nil ?_
                      refine N_then ?_
                      refine J_ret ?_
                      refine N_inlD1 hK61 rfl (rv_tmp rfl) 2 [3, 6, 7, 12] rfl rfl ?_
                      refine JD_take (i := 8) hp58 rfl (by kernel_rfl) (by kernel_rfl) (by kernel_rfl) (wants_none rfl) rfl (ex_build si_97 rfl (.cons fi_97_0 rfl rfl (.cons fi_97_1 rfl rfl (.cons fi_97_2 rfl rfl .nil))) (fun w hh => ⟨cv_int, cv_int, cv_int, trivial⟩)) ?_
                      refine JD_one (i := 9) (by kernel_rfl) ?_
                      refine JO_sk rfl (wants_none rfl) (sk_store_bx' 4 ti_97 rfl rfl (fun w hh => (cv_aggs ⟨cv_int, cv_int, cv_int, trivial⟩)) rfl rfl rfl rfl) (sub_bx 0 rfl) ?_
                      refine JD_done (by kernel_rfl) ?_
                      exact N_meet' v80 ⟨rfl, rfl, rfl, rfl, rfl, rfl, rfl, trivial⟩ [5, 6, 7, 8, 9, 10, 11, 4, 12] rfl rfl
                  · refine J_skip ?_
                    refine N_then ?_
                    refine J_seq ?_
                    refine J_region ?_
                    refine JL_q (wants_none rfl) rfl (ex_move rfl) ?_
                    refine JL_q (wants_none rfl) rfl (ex_assign rfl) ?_
                    refine JL_nil ?_
                    refine N_then ?_
                    refine J_ret ?_
                    refine N_inlD1 hK61 rfl (rv_tmp rfl) 1 [2, 5, 6, 11] rfl rfl ?_
                    refine JD_take (i := 8) hp58 rfl (by kernel_rfl) (by kernel_rfl) (by kernel_rfl) (wants_none rfl) rfl (ex_build si_97 rfl (.cons fi_97_0 rfl rfl (.cons fi_97_1 rfl rfl (.cons fi_97_2 rfl rfl .nil))) (fun w hh => ⟨cv_int, cv_int, cv_int, trivial⟩)) ?_
                    refine JD_one (i := 9) (by kernel_rfl) ?_
                    refine JO_sk rfl (wants_none rfl) (sk_store_bx' 3 ti_97 rfl rfl (fun w hh => (cv_aggs ⟨cv_int, cv_int, cv_int, trivial⟩)) rfl rfl rfl rfl) (sub_bx 0 rfl) ?_
                    refine JD_done (by kernel_rfl) ?_
                    exact N_meet' (.slice (some ⟨b51, 0, none⟩) s41.2.1.length cap52) ⟨rfl, rfl, rfl, rfl, rfl, rfl, rfl, trivial⟩ [4, 5, 6, 7, 8, 9, 10, 3, 11] rfl rfl
                · refine J_skip ?_
                  exact N_meet' (.slice (some ⟨b51, 0, none⟩) s41.2.1.length cap52) ⟨rfl, rfl, rfl, rfl, rfl, rfl, rfl, trivial⟩ [2, 3, 4, 5, 6, 7, 8, 1, 9] rfl rfl
              · refine N_then ?_
                refine J_draw [3, 6] (by kernel_rfl) ?_
                refine JP_take (i := 0) [0, 1, 2, 4, 5, 7, 8] [3, 6] rfl (by kernel_rfl) (by kernel_rfl) (by kernel_rfl) rfl rfl (wants_none rfl) rfl (ex_move rfl) ?_
                refine JP_take (i := 1) [0, 1, 2, 4, 5, 7, 8] [3, 6] rfl (by kernel_rfl) (by kernel_rfl) (by kernel_rfl) rfl rfl (wants_none rfl) rfl (ex_move rfl) ?_
                refine JP_take (i := 2) [0, 1, 2, 4, 5, 7, 8] [3, 6] rfl (by kernel_rfl) (by kernel_rfl) (by kernel_rfl) rfl rfl (wants_none rfl) rfl (ex_nilCheck rfl) ?_
                refine JP_take (i := 3) [0, 1, 2, 4, 5, 7, 8] [3, 6] rfl (by kernel_rfl) (by kernel_rfl) (by kernel_rfl) rfl rfl (wants_none rfl) rfl (ex_fieldAddr fi_92_0 rfl rfl) ?_
                refine JP_take (i := 4) [0, 1, 2, 4, 5, 7, 8] [3, 6] rfl (by kernel_rfl) (by kernel_rfl) (by kernel_rfl) rfl rfl (wants_none rfl) rfl (ex_fieldAddr fi_28_2 rfl rfl) ?_
                refine JP_take (i := 6) [0, 1, 2, 4, 5, 7, 8] [3, 6] rfl (by kernel_rfl) (by kernel_rfl) (by kernel_rfl) rfl rfl (wants_none rfl) rfl (ex_load_bx_agg 5 ti_97 rfl rfl rfl rfl) ?_
                refine JP_go [0, 1, 2, 4, 5, 7, 8] [3, 6] rfl rfl rfl (fun w82 h1_83 hp81 => ?_)
                refine JD_two (i := 5) (j := 7) (by kernel_rfl) ?_ ?_
                · refine JO_q rfl (wants_none rfl) rfl (ex_load_bx 6 ti_26 rfl rfl rfl) ?_
                  refine JD_one (i := 7) (by kernel_rfl) ?_
                  refine JO_st rfl (wants_none rfl) rfl (st_buildSlice (vs := [.agg #[.int .i64 s47.2.2.1, .int .i64 s47.2.2.2.1, .int .i64 s47.2.2.2.2]]) ([(⟨s47.2.2.1, s47.2.2.2.1, s47.2.2.2.2⟩ : GRule)] : List GRule) Try.underlying26 ti_97 zi_97 rfl rfl rfl (fun w hh => ⟨(GRule.rdmk (Rd.mk_int _ _ _) (Rd.mk_int _ _ _) (Rd.mk_int _ _ _)), trivial⟩)) (fun _ hk => nomatch hk) (fun b84 => ?_)
                  refine JD_bnd fun z85 hz86 => ?_
                  refine JD_one (i := 8) (by kernel_rfl) ?_
                  refine JO_st rfl (wants_none rfl) rfl (st_append 4 Try.underlying26 ti_97 zi_97 rfl bi_97 rfl rfl rfl rfl (fun w hh => hh.src_ow 0 rfl) hz86) (sub_ow 0 rfl) (fun v87 => ?_)
                  refine JD_take (i := 9) hp81 rfl (by kernel_rfl) (by kernel_rfl) (by kernel_rfl) (wants_none rfl) rfl (ex_nilCheck rfl) ?_
                  refine JD_take (i := 10) hp81 rfl (by kernel_rfl) (by kernel_rfl) (by kernel_rfl) (wants_none rfl) rfl (ex_fieldAddr fi_92_0 rfl rfl) ?_
                  refine JD_take (i := 11) hp81 rfl (by kernel_rfl) (by kernel_rfl) (by kernel_rfl) (wants_none rfl) rfl (ex_fieldAddr fi_28_2 rfl rfl) ?_
                  refine JD_one (i := 12) (by kernel_rfl) ?_
                  refine JO_sk rfl (wants_none rfl) (sk_store_bx' 7 ti_26 rfl rfl (fun w hh => (hh.cv_ow 4 rfl)) rfl rfl rfl rfl) (sub_bx 1 rfl) ?_
                  refine JD_done (by kernel_rfl) ?_
                  refine N_block ?_
                  refine N_then ?_
                  refine J_region ?_
                  refine JL_q (wants_none rfl) rfl (ex_add rfl rfl) ?_
                  refine JL_q (wants_none rfl) rfl (ex_move rfl) ?_
                  refine JL_nil ?_
                  exact N_next' (v87, g48) ⟨rfl, rfl, rfl, rfl, rfl, rfl, trivial⟩ [1, 2, 3, 4, 5, 6, 7, 9] rfl rfl
                · refine JO_st rfl (wants_none rfl) rfl (st_buildSlice (vs := [.agg #[.int .i64 s47.2.2.1, .int .i64 s47.2.2.2.1, .int .i64 s47.2.2.2.2]]) ([(⟨s47.2.2.1, s47.2.2.2.1, s47.2.2.2.2⟩ : GRule)] : List GRule) Try.underlying26 ti_97 zi_97 rfl rfl rfl (fun w hh => ⟨(GRule.rdmk (Rd.mk_int _ _ _) (Rd.mk_int _ _ _) (Rd.mk_int _ _ _)), trivial⟩)) (fun _ hk => nomatch hk) (fun b88 => ?_)
                  refine JD_one (i := 5) (by kernel_rfl) ?_
                  refine JO_q rfl (wants_none rfl) rfl (ex_load_bx 7 ti_26 rfl rfl rfl) ?_
                  refine JD_bnd fun z89 hz90 => ?_
                  refine JD_one (i := 8) (by kernel_rfl) ?_
                  refine JO_st rfl (wants_none rfl) rfl (st_append 4 Try.underlying26 ti_97 zi_97 rfl bi_97 rfl rfl rfl rfl (fun w hh => hh.src_ow 0 rfl) hz90) (sub_ow 0 rfl) (fun v91 => ?_)
                  refine JD_take (i := 9) hp81 rfl (by kernel_rfl) (by kernel_rfl) (by kernel_rfl) (wants_none rfl) rfl (ex_nilCheck rfl) ?_
                  refine JD_take (i := 10) hp81 rfl (by kernel_rfl) (by kernel_rfl) (by kernel_rfl) (wants_none rfl) rfl (ex_fieldAddr fi_92_0 rfl rfl) ?_
                  refine JD_take (i := 11) hp81 rfl (by kernel_rfl) (by kernel_rfl) (by kernel_rfl) (wants_none rfl) rfl (ex_fieldAddr fi_28_2 rfl rfl) ?_
                  refine JD_one (i := 12) (by kernel_rfl) ?_
                  refine JO_sk rfl (wants_none rfl) (sk_store_bx' 7 ti_26 rfl rfl (fun w hh => (hh.cv_ow 4 rfl)) rfl rfl rfl rfl) (sub_bx 1 rfl) ?_
                  refine JD_done (by kernel_rfl) ?_
                  refine N_block ?_
                  refine N_then ?_
                  refine J_region ?_
                  refine JL_q (wants_none rfl) rfl (ex_add rfl rfl) ?_
                  refine JL_q (wants_none rfl) rfl (ex_move rfl) ?_
                  refine JL_nil ?_
                  exact N_next' (v91, g48) ⟨rfl, rfl, rfl, rfl, rfl, rfl, trivial⟩ [1, 2, 3, 4, 5, 6, 7, 9] rfl rfl
            · refine J_exit ?_
              refine N_then_exit ?_
              exact N_break' (g42_0, g42_1) ⟨rfl, rfl, rfl, rfl, rfl, rfl, trivial⟩ [0, 1, 2, 3, 4, 5, 6, 7] rfl rfl
          · obtain ⟨g42_0, g42_1⟩ := g42
            refine N_then ?_
            refine J_seq ?_
            refine J_region ?_
            refine JL_q (wants_none rfl) rfl (ex_move rfl) ?_
            refine JL_q (wants_none rfl) rfl (ex_nilCheck rfl) ?_
            refine JL_q (wants_none rfl) rfl (ex_fieldAddr fi_92_1 rfl rfl) ?_
            refine JL_q (wants_none rfl) rfl (ex_load_bx 6 ti_89 rfl rfl rfl) ?_
            refine JL_q (wants_none rfl) rfl (ex_len_ow 4 Try.underlying89 rfl rfl) ?_
            refine JL_q (wants_none rfl) rfl (ex_gtr rfl rfl) ?_
            refine JL_nil ?_
            refine N_then ?_
            refine J_if rfl (fun h92 => ?_) (fun h92 => ?_)
            · refine J_seq ?_
              refine J_region ?_
              refine JL_q (wants_none rfl) rfl (ex_assign rfl) ?_
              refine JL_q (wants_none rfl) rfl (ex_assign rfl) ?_
              refine JL_nil ?_
              refine N_then ?_
              refine J_ret ?_
              refine N_block_ret ?_
              refine N_then_ret ?_
              refine N_round_reti ?_
              refine N_then_ret ?_
              refine N_inl2 hK13 rfl (rv_tmp rfl) (rv_tmp rfl) ?_
              refine JL_q (wants_none rfl) rfl (ex_extract rfl rfl) ?_
              refine JL_q (wants_none rfl) rfl (ex_extract rfl rfl) ?_
              refine JL_q (wants_none rfl) rfl (ex_assign rfl) ?_
              refine JL_q (wants_none rfl) rfl (ex_assign rfl) ?_
              refine JL_nil ?_
              refine N_then ?_
              refine J_ret ?_
              refine N_inl2 hK6 rfl (rv_tmp rfl) (rv_tmp rfl) ?_
              refine JL_q (wants_none rfl) rfl (ex_extract rfl rfl) ?_
              refine JL_q (wants_none rfl) rfl (ex_extract rfl rfl) ?_
              refine JL_inline (wants_none rfl) rfl Try.call33 rfl Try.func33 rfl Try.ntmps33 rfl rfl (fun K_ hK93 => ?_)
              refine J_seq ?_
              refine J_region ?_
              refine JL_st (wants_none rfl) rfl (st_alloc zi_28 rfl) (fun b94 => ?_)
              refine JL_q (wants_none rfl) rfl (ex_assign rfl) ?_
              refine JL_nil ?_
              refine N_then ?_
              refine J_seq ?_
              refine J_seq ?_
              refine J_region ?_
              refine JL_q (wants_none rfl) rfl (ex_move rfl) ?_
              refine JL_q (wants_none rfl) rfl (ex_not rfl) ?_
              refine JL_nil ?_
              refine N_then ?_
              refine J_if_true rfl (by rw [show (false) = false from rfl]; rfl) ?_
              refine J_seq ?_
              refine J_region ?_
              refine JL_q (wants_none rfl) rfl (ex_build si_28 rfl .nil (fun w hh => trivial)) ?_
              refine JL_sk (wants_none rfl) (sk_store_bx' 0 ti_28 rfl rfl (fun w hh => (cv_aggs ⟨cv_int, cv_int, cv_slice, trivial⟩)) rfl rfl rfl rfl) ?_
              refine JL_q (wants_none rfl) rfl (ex_assign rfl) ?_
              refine JL_nil ?_
              refine N_then ?_
              refine J_ret ?_
              refine N_then_ret ?_
              refine N_inl2 hK93 rfl (rv_cell 0 rfl rfl ti_28 rfl) (rv_tmp rfl) ?_
              refine JL_q (wants_none rfl) rfl (ex_extract rfl rfl) ?_
              refine JL_q (wants_none rfl) rfl (ex_extract rfl rfl) ?_
              refine JL_sk (wants_none rfl) (sk_store_bx' 8 ti_28 rfl rfl (fun w hh => (cv_aggs ⟨cv_int, cv_int, cv_slice, trivial⟩)) rfl rfl rfl rfl) ?_
              refine JL_q (wants_none rfl) rfl (ex_assign rfl) ?_
              refine JL_nil ?_
              refine N_then ?_
              refine J_ret ?_
              refine N_ctx (fun w hh => SH.ow_nil (α := GRule) 97 hh) ?_
              exact N_ret2 rfl (rv_cell 9 rfl rfl ti_28 rfl) (rv_tmp rfl) (fun w hh => ⟨(.slice none 0 0 : Value), rfl, hh.sel [0] rfl⟩)
            · refine J_skip ?_
              refine N_block ?_
              refine N_then ?_
              refine J_region ?_
              refine JL_q (wants_none rfl) rfl (ex_move rfl) ?_
              refine JL_q (wants_none rfl) rfl (ex_add rfl rfl) ?_
              refine JL_q (wants_none rfl) rfl (ex_assign rfl) ?_
              refine JL_nil ?_
              exact N_next' (g42_0, g42_1) ⟨rfl, rfl, rfl, rfl, trivial⟩ [0, 1, 2, 3, 4, 5, 6, 7] rfl rfl
        · refine J_exit ?_
          refine N_then_exit ?_
          exact N_break' (g39_0, g39_1) ⟨rfl, rfl, rfl, rfl, trivial⟩ [0, 1, 2, 3, 4, 5, 6, 7] rfl rfl
      · obtain ⟨g39_0, g39_1⟩ := g39
        refine N_then ?_
        refine J_seq ?_
        refine J_region ?_
        refine JL_q (wants_none rfl) rfl (ex_move rfl) ?_
        refine JL_q (wants_none rfl) rfl (ex_move rfl) ?_
        refine JL_q (wants_none rfl) rfl (ex_nilCheck rfl) ?_
        refine JL_q (wants_none rfl) rfl (ex_fieldAddr fi_92_1 rfl rfl) ?_
        refine JL_q (wants_none rfl) rfl (ex_load_bx 6 ti_89 rfl rfl rfl) ?_
        refine JL_bnd fun r95 hr96 => ?_
        refine JL_call (wants_none rfl) rfl Try.call98 rfl (Ca_of0 fun w hh => c_impl_size_impl_bitPlace _ w (fun _ hk => hk.elim) _ _ (hh.ow0 4 rfl) _ hr96) (fun _ => ?_)
        refine JL_q (wants_none rfl) rfl (ex_nilCheck rfl) ?_
        refine JL_q (wants_none rfl) rfl (ex_fieldAddr fi_92_0 rfl rfl) ?_
        refine JL_q (wants_none rfl) rfl (ex_fieldAddr fi_28_1 rfl rfl) ?_
        refine JL_sk (wants_none rfl) (sk_store_bx' 6 ti_2 rfl rfl (fun w hh => cv_int) rfl rfl rfl rfl) ?_
        refine JL_nil ?_
        refine N_then ?_
        refine J_seq ?_
        refine J_region ?_
        refine JL_q (wants_none rfl) rfl (ex_move rfl) ?_
        refine JL_q (wants_none rfl) rfl (ex_assign rfl) ?_
        refine JL_q (wants_none rfl) rfl (ex_assign rfl) ?_
        refine JL_nil ?_
        refine N_then ?_
        refine J_ret ?_
        refine N_inl2 hK13 rfl (rv_tmp rfl) (rv_tmp rfl) ?_
        refine JL_q (wants_none rfl) rfl (ex_extract rfl rfl) ?_
        refine JL_q (wants_none rfl) rfl (ex_extract rfl rfl) ?_
        refine JL_q (wants_none rfl) rfl (ex_assign rfl) ?_
        refine JL_q (wants_none rfl) rfl (ex_assign rfl) ?_
        refine JL_nil ?_
        refine N_then ?_
        refine J_ret ?_
        refine N_inl2 hK6 rfl (rv_tmp rfl) (rv_tmp rfl) ?_
        refine JL_q (wants_none rfl) rfl (ex_extract rfl rfl) ?_
        refine JL_q (wants_none rfl) rfl (ex_extract rfl rfl) ?_
        refine JL_inline (wants_none rfl) rfl Try.call33 rfl Try.func33 rfl Try.ntmps33 rfl rfl (fun K_ hK97 => ?_)
        refine J_seq ?_
        refine J_region ?_
        refine JL_st (wants_none rfl) rfl (st_alloc zi_28 rfl) (fun b98 => ?_)
        refine JL_q (wants_none rfl) rfl (ex_assign rfl) ?_
        refine JL_nil ?_
        refine N_then ?_
        refine J_seq ?_
        refine J_seq ?_
        refine J_region ?_
        refine JL_q (wants_none rfl) rfl (ex_move rfl) ?_
        refine JL_q (wants_none rfl) rfl (ex_not rfl) ?_
        refine JL_nil ?_
        refine N_then ?_
        refine J_if_false rfl (by rw [show (true) = true from rfl]; rfl) ?_
        refine J_skip ?_
        refine N_then ?_
        refine J_seq ?_
        refine J_region ?_
        refine JL_q (wants_none rfl) rfl (ex_move rfl) ?_
        refine JL_q (wants_none rfl) rfl (ex_nilCheck rfl) ?_
        refine JL_q (wants_none rfl) rfl (ex_fieldAddr fi_92_0 rfl rfl) ?_
        refine JL_q (wants_none rfl) rfl (ex_load_bx_agg 7 ti_28 rfl rfl rfl rfl) ?_
        refine JL_sk (wants_none rfl) (sk_store_bx' 0 ti_28 rfl rfl (fun w hh => (cv_aggs ⟨cv_int, cv_int, (hh.cv_ow 4 rfl), trivial⟩)) rfl rfl rfl rfl) ?_
        refine JL_q (wants_none rfl) rfl (ex_assign rfl) ?_
        refine JL_nil ?_
        refine N_then ?_
        refine J_ret ?_
        refine N_inl2 hK97 rfl (rv_cell 0 rfl rfl ti_28 rfl) (rv_tmp rfl) ?_
        refine JL_q (wants_none rfl) rfl (ex_extract rfl rfl) ?_
        refine JL_q (wants_none rfl) rfl (ex_extract rfl rfl) ?_
        refine JL_sk (wants_none rfl) (sk_store_bx' 8 ti_28 rfl rfl (fun w hh => (cv_aggs ⟨cv_int, cv_int, (hh.cv_ow 4 rfl), trivial⟩)) rfl rfl rfl rfl) ?_
        refine JL_q (wants_none rfl) rfl (ex_assign rfl) ?_
        refine JL_nil ?_
        refine N_then ?_
        refine J_ret ?_
        exact N_ret2 rfl (rv_cell 8 rfl rfl ti_28 rfl) (rv_tmp rfl) (fun w hh => ⟨g39_0, rfl, hh.sel [4] rfl⟩)

end Go.Proofs.Ytceimgjcikkadaa
