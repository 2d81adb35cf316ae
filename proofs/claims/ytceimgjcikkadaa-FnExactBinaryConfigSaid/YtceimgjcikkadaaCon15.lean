/-
  Each function of the program computes what its plain function says: printed by program. No condition.
-/
import Derived.Test.YtceimgjcikkadaaFn
import Derived.Test.YtceimgjcikkadaaInf
import Derived.Test.YtceimgjcikkadaaCon1
import Derived.Test.YtceimgjcikkadaaCon2
import Derived.Test.YtceimgjcikkadaaCon3
import Derived.Test.YtceimgjcikkadaaCon4
namespace Go.Proofs.Ytceimgjcikkadaa
open Go Go.Tc Go.Fn
set_option linter.unusedVariables false

set_option maxHeartbeats 40000000 in
theorem c_spec_l13Codes (A : Nat → Prop) (w : World) (hA : ∀ k, A k → k < w.heap.size) (v0_ : Value) (p0 : (List Int)) (hp0 : Rd A w v0_ p0) (p1 : Int) (p2 : Bool) (r : (List Int)) (hr : F_spec_l13Codes p0 p1 p2 = some r) :
    Con Try.prog 54 [v0_, .int .i64 p1, .bool p2] A w (fun x_ : Value => x_) (fun x_ => [.ow 2 x_ r]) := by
  refine Con_of (v := fun (r : (List Int)) (x_ : Value) => x_) (fs := fun r x_ => [.ow 2 x_ r]) Try.func54 rfl Try.ntmps54 rfl ((SH.start hA).start_rd rfl hp0) rfl ?_ hr
  unfold F_spec_l13Codes
  refine J_seq ?_
  refine J_region ?_
  refine JL_q (wants_none rfl) rfl (ex_assign rfl) ?_
  refine JL_nil ?_
  refine N_then ?_
  refine J_seq ?_
  refine J_region ?_
  refine JL_st (wants_none rfl) rfl (st_buildSlice (vs := []) ([] : List Int) Try.underlying35 ti_2 zi_2 rfl rfl rfl (fun w hh => trivial)) (fun b1 => ?_)
  refine JL_q (wants_none rfl) rfl (ex_assign rfl) ?_
  refine JL_nil ?_
  refine N_then ?_
  refine J_seq ?_
  refine J_seq ?_
  refine J_region ?_
  refine JL_q (wants_none rfl) rfl (ex_assign rfl) ?_
  refine JL_nil ?_
  refine N_then ?_
  refine J_loop' (S := (List Int) × Int) (G := Value) (F_spec_l13Codes_L1 p0 p1 p2) (fun s2 g3 => [(0, v0_), (1, .int .i64 p1), (2, .bool p2), (7, g3), (8, .int .i64 s2.2)]) (fun s2 g3 => [.rd v0_ p0, .ow 2 g3 s2.1]) (([] : List Int), 0) (.slice (some ⟨b1, 0, none⟩) 0 0) ⟨rfl, rfl, rfl, rfl, rfl, trivial⟩ [1, 0] rfl rfl (fun s2 g3 => ?_) (fun s2 g3 => ?_)
  · unfold F_spec_l13Codes_L1
    refine J_seq ?_
    refine J_seq ?_
    refine J_region ?_
    refine JL_q (wants_none rfl) rfl (ex_move rfl) ?_
    refine JL_q (wants_none rfl) rfl (ex_move rfl) ?_
    refine JL_q (wants_none rfl) rfl (ex_len_rd 0 Try.underlying35 rfl rfl) ?_
    refine JL_q (wants_none rfl) rfl (ex_lss rfl rfl) ?_
    refine JL_nil ?_
    refine N_then ?_
    refine J_if rfl (fun h4 => ?_) (fun h4 => ?_)
    · refine J_skip ?_
      refine N_then ?_
      refine J_seq ?_
      refine J_block ?_
      refine J_seq ?_
      refine J_region ?_
      refine JL_q (wants_none rfl) rfl (ex_assign rfl) ?_
      refine JL_nil ?_
      refine N_then ?_
      refine J_loop' (S := (List Int) × Int) (G := Value) (F_spec_l13Codes_L2 p0 p1 p2 s2) (fun s5 g6 => [(0, v0_), (1, .int .i64 p1), (2, .bool p2), (7, g6), (8, .int .i64 s2.2), (9, .int .i64 s5.2)]) (fun s5 g6 => [.rd v0_ p0, .ow 2 g6 s5.1]) (s2.1, 0) g3 ⟨rfl, rfl, rfl, rfl, rfl, rfl, trivial⟩ [0, 1] rfl rfl (fun s5 g6 => ?_) (fun s5 g6 => ?_)
      · unfold F_spec_l13Codes_L2
        refine J_seq ?_
        refine J_seq ?_
        refine J_region ?_
        refine JL_q (wants_none rfl) rfl (ex_move rfl) ?_
        refine JL_q (wants_none rfl) rfl (ex_move rfl) ?_
        refine JL_q (wants_none rfl) rfl (ex_lss rfl rfl) ?_
        refine JL_nil ?_
        refine N_then ?_
        refine J_if rfl (fun h7 => ?_) (fun h7 => ?_)
        · refine J_skip ?_
          refine N_then ?_
          refine J_seq ?_
          refine J_block ?_
          refine J_seq ?_
          refine J_region ?_
          refine JL_q (wants_none rfl) rfl (ex_move rfl) ?_
          refine JL_q (wants_none rfl) rfl (ex_assign rfl) ?_
          refine JL_nil ?_
          refine N_then ?_
          refine J_seq ?_
          refine J_seq ?_
          refine J_region ?_
          refine JL_q (wants_none rfl) rfl (ex_move rfl) ?_
          refine JL_nil ?_
          refine N_then ?_
          refine J_if rfl (fun h8 => ?_) (fun h8 => ?_)
          · refine J_region ?_
            refine JL_q (wants_none rfl) rfl (ex_move rfl) ?_
            refine JL_q (wants_none rfl) rfl (ex_sub rfl rfl) ?_
            refine JL_q (wants_none rfl) rfl (ex_move rfl) ?_
            refine JL_q (wants_none rfl) rfl (ex_sub rfl rfl) ?_
            refine JL_q (wants_none rfl) rfl (ex_assign rfl) ?_
            refine JL_nil ?_
            refine N_then ?_
            refine J_region ?_
            refine JL_q (wants_none rfl) rfl (ex_move rfl) ?_
            refine JL_q (wants_none rfl) rfl (ex_move rfl) ?_
            refine JL_q (wants_none rfl) rfl (ex_move rfl) ?_
            refine JL_bnd fun y9 hy10 => ?_
            refine JL_st (wants_none rfl) rfl (st_index 0 Try.underlying35 ti_2 rfl rfl rfl hy10) (fun q11 => ?_)
            refine JL_st (wants_none rfl) rfl (st_load_pt_o 0 (opens_int _) ti_2 rfl rfl) (fun _ => ?_)
            refine JL_q (wants_none rfl) rfl (ex_move rfl) ?_
            refine JL_q (wants_none rfl) rfl (ex_move rfl) ?_
            refine JL_bnd fun r13 hr14 => ?_
            refine JL_call (wants_none rfl) rfl Try.call85 rfl (Ca_of0 fun w hh => c_spec_l13Bit _ w (fun _ hk => hk.elim) _ _ _ _ hr14) (fun _ => ?_)
            refine JL_st (wants_none rfl) rfl (st_buildSlice (vs := [.int .i64 r13]) ([r13] : List Int) Try.underlying35 ti_2 zi_2 rfl rfl rfl (fun w hh => ⟨(Rd.mk_int _ _ _), trivial⟩)) (fun b15 => ?_)
            refine JL_bnd fun z16 hz17 => ?_
            refine JL_st (wants_none rfl) rfl (st_append 3 Try.underlying35 ti_2 zi_2 rfl bi_2 rfl rfl rfl rfl (fun w hh => hh.src_ow 0 rfl) hz17) (fun v18 => ?_)
            refine JL_q (wants_none rfl) rfl (ex_assign rfl) ?_
            refine JL_nil ?_
            refine N_block ?_
            refine N_then ?_
            refine J_region ?_
            refine JL_q (wants_none rfl) rfl (ex_move rfl) ?_
            refine JL_q (wants_none rfl) rfl (ex_add rfl rfl) ?_
            refine JL_q (wants_none rfl) rfl (ex_assign rfl) ?_
            refine JL_nil ?_
            exact N_next' v18 ⟨rfl, rfl, rfl, rfl, rfl, rfl, trivial⟩ [2, 3] rfl rfl
          · refine J_skip ?_
            refine N_then ?_
            refine J_region ?_
            refine JL_q (wants_none rfl) rfl (ex_move rfl) ?_
            refine JL_q (wants_none rfl) rfl (ex_move rfl) ?_
            refine JL_q (wants_none rfl) rfl (ex_move rfl) ?_
            refine JL_bnd fun y19 hy20 => ?_
            refine JL_st (wants_none rfl) rfl (st_index 0 Try.underlying35 ti_2 rfl rfl rfl hy20) (fun q21 => ?_)
            refine JL_st (wants_none rfl) rfl (st_load_pt_o 0 (opens_int _) ti_2 rfl rfl) (fun _ => ?_)
            refine JL_q (wants_none rfl) rfl (ex_move rfl) ?_
            refine JL_q (wants_none rfl) rfl (ex_move rfl) ?_
            refine JL_bnd fun r23 hr24 => ?_
            refine JL_call (wants_none rfl) rfl Try.call85 rfl (Ca_of0 fun w hh => c_spec_l13Bit _ w (fun _ hk => hk.elim) _ _ _ _ hr24) (fun _ => ?_)
            refine JL_st (wants_none rfl) rfl (st_buildSlice (vs := [.int .i64 r23]) ([r23] : List Int) Try.underlying35 ti_2 zi_2 rfl rfl rfl (fun w hh => ⟨(Rd.mk_int _ _ _), trivial⟩)) (fun b25 => ?_)
            refine JL_bnd fun z26 hz27 => ?_
            refine JL_st (wants_none rfl) rfl (st_append 3 Try.underlying35 ti_2 zi_2 rfl bi_2 rfl rfl rfl rfl (fun w hh => hh.src_ow 0 rfl) hz27) (fun v28 => ?_)
            refine JL_q (wants_none rfl) rfl (ex_assign rfl) ?_
            refine JL_nil ?_
            refine N_block ?_
            refine N_then ?_
            refine J_region ?_
            refine JL_q (wants_none rfl) rfl (ex_move rfl) ?_
            refine JL_q (wants_none rfl) rfl (ex_add rfl rfl) ?_
            refine JL_q (wants_none rfl) rfl (ex_assign rfl) ?_
            refine JL_nil ?_
            exact N_next' v28 ⟨rfl, rfl, rfl, rfl, rfl, rfl, trivial⟩ [2, 3] rfl rfl
        · refine J_exit ?_
          refine N_then_exit ?_
          exact N_break' g6 ⟨rfl, rfl, rfl, rfl, rfl, rfl, trivial⟩ [0, 1] rfl rfl
      · refine N_block ?_
        refine N_then ?_
        refine J_region ?_
        refine JL_q (wants_none rfl) rfl (ex_move rfl) ?_
        refine JL_q (wants_none rfl) rfl (ex_add rfl rfl) ?_
        refine JL_q (wants_none rfl) rfl (ex_assign rfl) ?_
        refine JL_nil ?_
        exact N_next' g6 ⟨rfl, rfl, rfl, rfl, rfl, trivial⟩ [0, 1] rfl rfl
    · refine J_exit ?_
      refine N_then_exit ?_
      exact N_break' g3 ⟨rfl, rfl, rfl, rfl, rfl, trivial⟩ [0, 1] rfl rfl
  · refine N_then ?_
    refine J_seq ?_
    refine J_region ?_
    refine JL_q (wants_none rfl) rfl (ex_move rfl) ?_
    refine JL_q (wants_none rfl) rfl (ex_assign rfl) ?_
    refine JL_nil ?_
    refine N_then ?_
    refine J_ret ?_
    exact N_ret1 rfl (rv_tmp rfl) (fun w hh => ⟨g3, rfl, hh.sel [1] rfl⟩)

set_option maxHeartbeats 40000000 in
theorem c_spec_BinaryConfig (A : Nat → Prop) (w : World) (hA : ∀ k, A k → k < w.heap.size) (v0_ : Value) (p0 : GMachine) (hp0 : Rd A w v0_ p0) (v1_ : Value) (p1 : GConfig) (hp1 : Rd A w v1_ p1) (r : GConfig × Int) (hr : F_spec_BinaryConfig p0 p1 = some r) :
    Con Try.prog 24 [v0_, v1_] A w (fun x_ : Value × Value => .tuple #[.agg #[.int .i64 r.1.State, x_.1, x_.2], .int .i64 r.2]) (fun x_ => [.ow 2 x_.1 r.1.Left, .ow 2 x_.2 r.1.Right]) := by
  obtain ⟨v0_0, rfl, hp0_0⟩ := GMachine.open hp0
  obtain ⟨v1_0, v1_1, rfl, hp1_0, hp1_1⟩ := GConfig.open hp1
  refine Con_of (v := fun (r : GConfig × Int) (x_ : Value × Value) => .tuple #[.agg #[.int .i64 r.1.State, x_.1, x_.2], .int .i64 r.2]) (fs := fun r x_ => [.ow 2 x_.1 r.1.Left, .ow 2 x_.2 r.1.Right]) Try.func24 rfl Try.ntmps24 rfl ((((SH.start hA).start_rd rfl hp0_0).start_rd rfl hp1_0).start_rd rfl hp1_1) rfl ?_ hr
  unfold F_spec_BinaryConfig
  refine J_seq ?_
  refine J_region ?_
  refine JL_st (wants_none rfl) rfl (st_box' rfl (fun w hh => (cv_aggs ⟨cv_int, cv_int, (hh.cv 2 rfl), trivial⟩))) (fun b1 => ?_)
  refine JL_st (wants_none rfl) rfl (st_box' rfl (fun w hh => (cv_aggs ⟨cv_int, (hh.cv 2 rfl), (hh.cv 1 rfl), trivial⟩))) (fun b2 => ?_)
  refine JL_st (wants_none rfl) rfl (st_alloc zi_39 rfl) (fun b3 => ?_)
  refine JL_q (wants_none rfl) rfl (ex_assign rfl) ?_
  refine JL_nil ?_
  refine N_then ?_
  refine J_seq ?_
  refine J_cut' (S' := Unit) (G' := Unit) (fun _ _ => [(2, .pointer (some ⟨b1, 0, none⟩)), (3, .pointer (some ⟨b2, 0, none⟩)), (4, .pointer (some ⟨b3, 0, none⟩))]) (fun _ _ => [.rd v0_0 p0.Rules, .bx b1 28 [.int .i64 p0.Symbols, .int .i64 p0.States, v0_0], .rd v1_0 p1.Left, .rd v1_1 p1.Right, .bx b2 39 [.int .i64 p1.State, v1_0, v1_1], .bx b3 39 [.int .i64 0, .slice none 0 0, .slice none 0 0]]) ?_ (fun s4 g5 => ?_)
  · refine J_seq ?_
    refine J_region ?_
    refine JL_bnd fun r6 hr7 => ?_
    refine JL_call (wants_none rfl) rfl Try.call29 rfl (Ca_of0 fun w hh => c_spec_l05Is _ w (fun _ hk => hk.elim) _ _ (hh.bx_pa 2 rfl (GMachine.rdmk (Rd.mk_int _ _ _) (Rd.mk_int _ _ _) (hh.rd0 5 rfl)) rfl) _ hr7) (fun _ => ?_)
    refine JL_q (wants_none rfl) rfl (ex_not rfl) ?_
    refine JL_q (wants_none rfl) rfl (ex_move rfl) ?_
    refine JL_cond (fun h8 => ?_) (fun h8 => ?_)
    · refine JL_passed rfl rfl rfl h8 ?_
      refine JL_passed rfl rfl rfl h8 ?_
      refine JL_q (wants_none rfl) rfl (ex_pick_true rfl h8 rfl) ?_
      refine JL_nil ?_
      refine N_then ?_
      refine J_if_true rfl rfl ?_
      refine J_seq ?_
      refine J_region ?_
      refine JL_q (wants_none rfl) rfl (ex_build si_39 rfl .nil (fun w hh => trivial)) ?_
      refine JL_sk (wants_none rfl) (sk_store_bx' 0 ti_39 rfl rfl (fun w hh => (cv_aggs ⟨cv_int, cv_slice, cv_slice, trivial⟩)) rfl rfl rfl rfl) ?_
      refine JL_q (wants_none rfl) rfl (ex_assign rfl) ?_
      refine JL_nil ?_
      refine N_then ?_
      refine J_ret ?_
      refine N_mid_ret ?_
      refine N_then_ret ?_
      refine N_ctx (fun w hh => SH.ow_nil (α := Int) 2 hh) ?_
      refine N_ctx (fun w hh => SH.ow_nil (α := Int) 2 hh) ?_
      exact N_ret2 rfl (rv_cell 2 rfl rfl ti_39 rfl) (rv_tmp rfl) (fun w hh => ⟨((.slice none 0 0 : Value), (.slice none 0 0 : Value)), rfl, hh.sel [1, 0] rfl⟩)
    · refine JL_bnd fun r9 hr10 => ?_
      refine JL_call (wants_some rfl rfl rfl h8) rfl Try.call42 rfl (Ca_of0 fun w hh => c_spec_l05Good _ w (fun _ hk => hk.elim) _ _ (hh.bx_pa 2 rfl (GMachine.rdmk (Rd.mk_int _ _ _) (Rd.mk_int _ _ _) (hh.rd0 5 rfl)) rfl) _ _ (hh.bx_pa 1 rfl (GConfig.rdmk (Rd.mk_int _ _ _) (hh.rd0 4 rfl) (hh.rd0 3 rfl)) rfl) _ hr10) (fun _ => ?_)
      refine JL_q (wants_some rfl rfl rfl h8) rfl (ex_not rfl) ?_
      refine JL_q (wants_none rfl) rfl (ex_pick_false rfl h8 rfl) ?_
      refine JL_nil ?_
      refine N_then ?_
      refine J_if rfl (fun h11 => ?_) (fun h11 => ?_)
      · refine J_seq ?_
        refine J_region ?_
        refine JL_q (wants_none rfl) rfl (ex_build si_39 rfl .nil (fun w hh => trivial)) ?_
        refine JL_sk (wants_none rfl) (sk_store_bx' 0 ti_39 rfl rfl (fun w hh => (cv_aggs ⟨cv_int, cv_slice, cv_slice, trivial⟩)) rfl rfl rfl rfl) ?_
        refine JL_q (wants_none rfl) rfl (ex_assign rfl) ?_
        refine JL_nil ?_
        refine N_then ?_
        refine J_ret ?_
        refine N_mid_ret ?_
        refine N_then_ret ?_
        refine N_ctx (fun w hh => SH.ow_nil (α := Int) 2 hh) ?_
        refine N_ctx (fun w hh => SH.ow_nil (α := Int) 2 hh) ?_
        exact N_ret2 rfl (rv_cell 2 rfl rfl ti_39 rfl) (rv_tmp rfl) (fun w hh => ⟨((.slice none 0 0 : Value), (.slice none 0 0 : Value)), rfl, hh.sel [1, 0] rfl⟩)
      · refine J_skip ?_
        exact N_meet' () ⟨rfl, rfl, rfl, trivial⟩ [5, 2, 4, 3, 1, 0] rfl rfl
  · refine N_then ?_
    refine J_seq ?_
    refine J_region ?_
    refine JL_inline (wants_none rfl) rfl Try.call30 rfl Try.func30 rfl Try.ntmps30 rfl rfl (fun K_ hK12 => ?_)
    refine J_seq ?_
    refine J_region ?_
    refine JL_q (wants_none rfl) rfl (ex_assign rfl) ?_
    refine JL_q (wants_none rfl) rfl (ex_assign rfl) ?_
    refine JL_nil ?_
    refine N_then ?_
    refine J_seq ?_
    refine J_region ?_
    refine JL_q (wants_none rfl) rfl (ex_move rfl) ?_
    refine JL_q (wants_none rfl) rfl (ex_build si_55 rfl (.cons fi_55_0 rfl rfl .nil) (fun w hh => ⟨cv_ptr, trivial⟩)) ?_
    refine JL_st (wants_none rfl) rfl (st_box' rfl (fun w hh => (cv_aggs ⟨cv_ptr, cv_ptr, cv_int, cv_slice, cv_int, cv_int, cv_slice, trivial⟩))) (fun b13 => ?_)
    refine JL_q (wants_none rfl) rfl (ex_assign rfl) ?_
    refine JL_nil ?_
    refine N_then ?_
    refine J_seq ?_
    refine J_region ?_
    refine JL_q (wants_none rfl) rfl (ex_move rfl) ?_
    refine JL_st (wants_none rfl) rfl (st_buildSlice (vs := [.int .i64 0, .int .i64 0, .int .i64 0, .int .i64 0]) ([0, 0, 0, 0] : List Int) Try.underlying35 ti_2 zi_2 rfl rfl rfl (fun w hh => ⟨(Rd.mk_int _ _ _), (Rd.mk_int _ _ _), (Rd.mk_int _ _ _), (Rd.mk_int _ _ _), trivial⟩)) (fun b14 => ?_)
    refine JL_inline (wants_none rfl) rfl Try.call67 rfl Try.func67 rfl Try.ntmps67 rfl rfl (fun K_ hK15 => ?_)
    refine J_seq ?_
    refine J_region ?_
    refine JL_q (wants_none rfl) rfl (ex_assign rfl) ?_
    refine JL_nil ?_
    refine N_then ?_
    refine J_seq ?_
    refine J_region ?_
    refine JL_q (wants_none rfl) rfl (ex_move rfl) ?_
    refine JL_q (wants_none rfl) rfl (ex_move rfl) ?_
    refine JL_ctx (fun w hh => hh.tokf 0 rfl rfl) ?_
    refine JL_st (wants_none rfl) rfl (st_buildSlice_od (vs := [(.slice (some ⟨b14, 0, none⟩) 4 4)]) (B := ((((.slice (some ⟨b14, 0, none⟩) 4 4) : Value).ownBlock.toList ++ []) ++ [])) ([([0, 0, 0, 0] : List Int)] : List (List Int)) [0] Try.underlying53 ti_35 zi_35 rfl rfl rfl rfl rfl (fun w hh => (dwv_cons (hh.dw 0 rfl) dwv_nil))) (fun b16 => ?_)
    refine JL_q (wants_none rfl) rfl (ex_nilCheck rfl) ?_
    refine JL_q (wants_none rfl) rfl (ex_fieldAddr fi_55_3 rfl rfl) ?_
    refine JL_sk (wants_none rfl) (sk_store_bx' 3 ti_53 rfl rfl (fun w hh => (hh.cv_od 0 rfl)) rfl rfl rfl rfl) ?_
    refine JL_nil ?_
    refine N_then ?_
    refine J_seq ?_
    refine J_region ?_
    refine JL_q (wants_none rfl) rfl (ex_move rfl) ?_
    refine JL_q (wants_none rfl) rfl (ex_move rfl) ?_
    refine JL_st (wants_none rfl) rfl (st_buildSlice (vs := []) ([] : List GRule) Try.underlying26 ti_97 zi_97 rfl rfl rfl (fun w hh => trivial)) (fun b17 => ?_)
    refine JL_q (wants_none rfl) rfl (ex_build si_28 rfl (.cons fi_28_0 rfl rfl (.cons fi_28_2 rfl rfl .nil)) (fun w hh => ⟨cv_int, (hh.cv_ow 0 rfl), trivial⟩)) ?_
    refine JL_q (wants_none rfl) rfl (ex_nilCheck rfl) ?_
    refine JL_q (wants_none rfl) rfl (ex_fieldAddr fi_55_4 rfl rfl) ?_
    refine JL_sk (wants_none rfl) (sk_store_bx' 4 ti_28 rfl rfl (fun w hh => (cv_aggs ⟨cv_int, cv_int, (hh.cv_ow 0 rfl), trivial⟩)) rfl rfl rfl rfl) ?_
    refine JL_nil ?_
    refine N_then ?_
    refine J_seq ?_
    refine J_seq ?_
    refine J_region ?_
    refine JL_q (wants_none rfl) rfl (ex_assign rfl) ?_
    refine JL_nil ?_
    refine N_then ?_
    refine J_loop' (S := (List (List Int)) × (List GRule) × Int) (G := Value × List Nat × Value) (F_spec_BinaryConfig_L1 p0) (fun s18 g19 => [(0, .pointer (some ⟨b13, 0, none⟩)), (1, .int .i64 2), (7, .int .i64 s18.2.2)]) (fun s18 g19 => [.rd v0_0 p0.Rules, .bx b1 28 [.int .i64 p0.Symbols, .int .i64 p0.States, v0_0], .od 35 g19.1 s18.1 g19.2.1, .ow 97 g19.2.2 s18.2.1, .bx b13 55 [.pointer (some ⟨b1, 0, none⟩), .pointer none, .int .i64 0, g19.1, .int .i64 2, .int .i64 0, g19.2.2], .rd v1_0 p1.Left, .rd v1_1 p1.Right, .bx b2 39 [.int .i64 p1.State, v1_0, v1_1], .bx b3 39 [.int .i64 0, .slice none 0 0, .slice none 0 0]]) (([([0, 0, 0, 0] : List Int)] : List (List Int)), ([] : List GRule), 0) ((.slice (some ⟨b16, 0, none⟩) 1 1), ((((.slice (some ⟨b14, 0, none⟩) 4 4) : Value).ownBlock.toList ++ []) ++ []), (.slice (some ⟨b17, 0, none⟩) 0 0)) ⟨rfl, rfl, rfl, trivial⟩ [5, 6, 1, 0, 4, 7, 8, 9, 10] rfl rfl (fun s18 g19 => ?_) (fun s18 g19 => ?_)
    · obtain ⟨g19_0, g19_1, g19_2⟩ := g19
      unfold F_spec_BinaryConfig_L1
      refine J_seq ?_
      refine J_seq ?_
      refine J_region ?_
      refine JL_q (wants_none rfl) rfl (ex_move rfl) ?_
      refine JL_q (wants_none rfl) rfl (ex_move rfl) ?_
      refine JL_q (wants_none rfl) rfl (ex_nilCheck rfl) ?_
      refine JL_q (wants_none rfl) rfl (ex_fieldAddr fi_55_3 rfl rfl) ?_
      refine JL_q (wants_none rfl) rfl (ex_load_bx 4 ti_53 rfl rfl rfl) ?_
      refine JL_q (wants_none rfl) rfl (ex_od 2 rfl (ex_len_ow 2 Try.underlying53 rfl rfl)) ?_
      refine JL_q (wants_none rfl) rfl (ex_lss rfl rfl) ?_
      refine JL_nil ?_
      refine N_then ?_
      refine J_if rfl (fun h20 => ?_) (fun h20 => ?_)
      · refine J_skip ?_
        refine N_then ?_
        refine J_seq ?_
        refine J_block ?_
        refine J_seq ?_
        refine J_region ?_
        refine JL_q (wants_none rfl) rfl (ex_assign rfl) ?_
        refine JL_nil ?_
        refine N_then ?_
        refine J_loop' (S := (List (List Int)) × (List GRule) × Int) (G := Value × List Nat × Value) (F_spec_BinaryConfig_L2 p0 s18) (fun s21 g22 => [(0, .pointer (some ⟨b13, 0, none⟩)), (1, .int .i64 2), (7, .int .i64 s18.2.2), (8, .int .i64 s21.2.2)]) (fun s21 g22 => [.rd v0_0 p0.Rules, .bx b1 28 [.int .i64 p0.Symbols, .int .i64 p0.States, v0_0], .od 35 g22.1 s21.1 g22.2.1, .ow 97 g22.2.2 s21.2.1, .bx b13 55 [.pointer (some ⟨b1, 0, none⟩), .pointer none, .int .i64 0, g22.1, .int .i64 2, .int .i64 0, g22.2.2], .rd v1_0 p1.Left, .rd v1_1 p1.Right, .bx b2 39 [.int .i64 p1.State, v1_0, v1_1], .bx b3 39 [.int .i64 0, .slice none 0 0, .slice none 0 0]]) (s18.1, s18.2.1, 0) (g19_0, g19_1, g19_2) ⟨rfl, rfl, rfl, rfl, trivial⟩ [0, 1, 2, 3, 4, 5, 6, 7, 8] rfl rfl (fun s21 g22 => ?_) (fun s21 g22 => ?_)
        · obtain ⟨g22_0, g22_1, g22_2⟩ := g22
          unfold F_spec_BinaryConfig_L2
          refine J_seq ?_
          refine J_seq ?_
          refine J_region ?_
          refine JL_q (wants_none rfl) rfl (ex_move rfl) ?_
          refine JL_q (wants_none rfl) rfl (ex_move rfl) ?_
          refine JL_q (wants_none rfl) rfl (ex_lss rfl rfl) ?_
          refine JL_nil ?_
          refine N_then ?_
          refine J_if rfl (fun h23 => ?_) (fun h23 => ?_)
          · refine J_skip ?_
            refine N_then ?_
            refine J_seq ?_
            refine J_block ?_
            refine J_seq ?_
            refine J_region ?_
            refine JL_q (wants_none rfl) rfl (ex_move rfl) ?_
            refine JL_q (wants_none rfl) rfl (ex_move rfl) ?_
            refine JL_q (wants_none rfl) rfl (ex_nilCheck rfl) ?_
            refine JL_q (wants_none rfl) rfl (ex_fieldAddr fi_55_3 rfl rfl) ?_
            refine JL_q (wants_none rfl) rfl (ex_load_bx 4 ti_53 rfl rfl rfl) ?_
            refine JL_q (wants_none rfl) rfl (ex_move rfl) ?_
            refine JL_bnd fun y24 hy25 => ?_
            refine JL_od_open (v := g22_0) 2 rfl hy25 ?_; rintro b26 cap27 rfl
            refine JL_q (wants_none rfl) rfl (ex_od 2 rfl (ex_index_ow 2 Try.underlying53 ti_35 rfl rfl rfl hy25)) ?_
            refine JL_st (wants_none rfl) rfl (st_od 2 rfl (st_load_ow_o 2 (opens_sl _) ti_35 rfl rfl hy25) (fun _ => rfl)) (fun v28 => ?_)
            refine JL_q (wants_none rfl) rfl (ex_move rfl) ?_
            refine JL_inline (wants_none rfl) rfl Try.call93 rfl Try.func93 rfl Try.ntmps93 rfl rfl (fun K_ hK29 => ?_)
            refine J_seq ?_
            refine J_region ?_
            refine JL_st (wants_none rfl) rfl (st_alloc zi_129 rfl) (fun b30 => ?_)
            refine JL_nil ?_
            refine N_then ?_
            refine J_seq ?_
            refine J_seq ?_
            refine J_region ?_
            refine JL_q (wants_none rfl) rfl (ex_move rfl) ?_
            refine JL_q (wants_none rfl) rfl (ex_nilCheck rfl) ?_
            refine JL_q (wants_none rfl) rfl (ex_fieldAddr fi_55_2 rfl rfl) ?_
            refine JL_q (wants_none rfl) rfl (ex_load_bx 6 ti_2 rfl rfl rfl) ?_
            refine JL_nil ?_
            refine N_then ?_
            refine J_block ?_
            refine J_seq ?_
            refine J_region ?_
            refine JL_q (wants_none rfl) rfl (ex_eql rfl rfl) ?_
            refine JL_q (wants_none rfl) rfl (ex_assign rfl) ?_
            refine JL_nil ?_
            refine N_then ?_
            refine J_if_false rfl (by decide) ?_
            refine J_seq ?_
            refine J_region ?_
            refine JL_q (wants_none rfl) rfl (ex_eql rfl rfl) ?_
            refine JL_q (wants_none rfl) rfl (ex_assign rfl) ?_
            refine JL_nil ?_
            refine N_then ?_
            refine J_if_false rfl (by decide) ?_
            refine J_skip ?_
            refine N_block ?_
            refine N_then ?_
            refine J_seq ?_
            refine J_region ?_
            refine JL_q (wants_none rfl) rfl (ex_move rfl) ?_
            refine JL_q (wants_none rfl) rfl (ex_nilCheck rfl) ?_
            refine JL_q (wants_none rfl) rfl (ex_fieldAddr fi_55_0 rfl rfl) ?_
            refine JL_q (wants_none rfl) rfl (ex_load_bx 6 ti_48 rfl rfl rfl) ?_
            refine JL_q (wants_none rfl) rfl (ex_move rfl) ?_
            refine JL_q (wants_none rfl) rfl (ex_move rfl) ?_
            refine JL_bnd fun r31 hr32 => ?_
            refine JL_call (wants_none rfl) rfl Try.call108 rfl (Ca_self (fun _ => rfl) fun w hh => c_spec_l13Binary _ w (fun _ hk => hk.elim) _ _ (hh.bx_pa 3 rfl (GMachine.rdmk (Rd.mk_int _ _ _) (Rd.mk_int _ _ _) (hh.rd0 2 rfl)) rfl) _ _ (hh.rd0 1 rfl) _ _ hr32) (fun x33 => ?_)
            obtain ⟨x33_0, x33_1⟩ := x33
            refine JL_ctx (fun w hh => hh.tkn_rd 0 rfl) ?_
            refine JL_sk (wants_none rfl) (sk_store_bx' 2 ti_129 rfl rfl (fun w hh => (cv_aggs ⟨cv_bool, cv_int, cv_int, (hh.cv 0 rfl), trivial⟩)) rfl rfl rfl rfl) ?_
            refine JL_nil ?_
            refine N_then ?_
            refine J_ret ?_
            refine N_inl1 hK29 rfl (rv_cell 2 rfl rfl ti_129 rfl) ?_
            refine JL_st (wants_none rfl) rfl (st_alloc zi_129 rfl) (fun b34 => ?_)
            refine JL_sk (wants_none rfl) (sk_store_bx' 0 ti_129 rfl rfl (fun w hh => (cv_aggs ⟨cv_bool, cv_int, cv_int, (hh.cv 1 rfl), trivial⟩)) rfl rfl rfl rfl) ?_
            refine JL_nil ?_
            refine N_then ?_
            refine J_seq ?_
            refine J_seq ?_
            refine J_region ?_
            refine JL_q (wants_none rfl) rfl (ex_fieldAddr fi_129_0 rfl rfl) ?_
            refine JL_q (wants_none rfl) rfl (ex_load_bx 0 ti_4 rfl rfl rfl) ?_
            refine JL_q (wants_none rfl) rfl (ex_not rfl) ?_
            refine JL_nil ?_
            refine N_then ?_
            refine J_if rfl (fun h35 => ?_) (fun h35 => ?_)
            · refine J_seq ?_
              refine J_cut' (S' := (List GRule)) (G' := Value) (fun s36 g37 => [(0, .pointer (some ⟨b13, 0, none⟩)), (1, .int .i64 2), (7, .int .i64 s18.2.2), (8, .int .i64 s21.2.2)]) (fun s36 g37 => [.rd v0_0 p0.Rules, .bx b1 28 [.int .i64 p0.Symbols, .int .i64 p0.States, v0_0], .od 35 (.slice (some ⟨b26, 0, none⟩) s21.1.length cap27) s21.1 g22_1, .ow 97 g37 s36, .bx b13 55 [.pointer (some ⟨b1, 0, none⟩), .pointer none, .int .i64 0, (.slice (some ⟨b26, 0, none⟩) s21.1.length cap27), .int .i64 2, .int .i64 0, g37], .rd v1_0 p1.Left, .rd v1_1 p1.Right, .bx b2 39 [.int .i64 p1.State, v1_0, v1_1], .bx b3 39 [.int .i64 0, .slice none 0 0, .slice none 0 0]]) ?_ (fun s36 g37 => ?_)
              · refine J_draw [8, 9] (by kernel_rfl) ?_
                refine JP_take (i := 0) [0, 1, 2, 3, 4, 5, 6, 7, 10, 11, 12, 13] [8, 9] rfl (by kernel_rfl) (by kernel_rfl) (by kernel_rfl) rfl rfl (wants_none rfl) rfl (ex_move rfl) ?_
                refine JP_take (i := 1) [0, 1, 2, 3, 4, 5, 6, 7, 10, 11, 12, 13] [8, 9] rfl (by kernel_rfl) (by kernel_rfl) (by kernel_rfl) rfl rfl (wants_none rfl) rfl (ex_move rfl) ?_
                refine JP_take (i := 2) [0, 1, 2, 3, 4, 5, 6, 7, 10, 11, 12, 13] [8, 9] rfl (by kernel_rfl) (by kernel_rfl) (by kernel_rfl) rfl rfl (wants_none rfl) rfl (ex_nilCheck rfl) ?_
                refine JP_take (i := 3) [0, 1, 2, 3, 4, 5, 6, 7, 10, 11, 12, 13] [8, 9] rfl (by kernel_rfl) (by kernel_rfl) (by kernel_rfl) rfl rfl (wants_none rfl) rfl (ex_fieldAddr fi_55_4 rfl rfl) ?_
                refine JP_take (i := 4) [0, 1, 2, 3, 4, 5, 6, 7, 10, 11, 12, 13] [8, 9] rfl (by kernel_rfl) (by kernel_rfl) (by kernel_rfl) rfl rfl (wants_none rfl) rfl (ex_fieldAddr fi_28_2 rfl rfl) ?_
                refine JP_go [0, 1, 2, 3, 4, 5, 6, 7, 10, 11, 12, 13] [8, 9] rfl rfl rfl (fun w39 h1_40 hp38 => ?_)
                refine JD_bnd fun r41 hr42 => ?_
                refine JD_two (i := 5) (j := 6) (by kernel_rfl) ?_ ?_
                · refine JO_q rfl (wants_none rfl) rfl (ex_load_bx 9 ti_26 rfl rfl rfl) ?_
                  refine JD_one (i := 6) (by kernel_rfl) ?_
                  refine JO_call rfl (wants_none rfl) rfl Try.call92 rfl (Ca_of0 fun w hh => c_spec_l05None _ w (fun _ hk => hk.elim)  _ hr42) (fun _ => ?_)
                  refine JD_one (i := 7) (by kernel_rfl) ?_
                  refine JO_st rfl (wants_none rfl) rfl (st_buildSlice (vs := [.agg #[.int .i64 r41.Write, .int .i64 r41.Move, .int .i64 r41.Next]]) ([r41] : List GRule) Try.underlying26 ti_97 zi_97 rfl rfl rfl (fun w hh => ⟨(GRule.rdmk (Rd.mk_int _ _ _) (Rd.mk_int _ _ _) (Rd.mk_int _ _ _)), trivial⟩)) (fun _ hk => nomatch hk) (fun b43 => ?_)
                  refine JD_bnd fun z44 hz45 => ?_
                  refine JD_one (i := 8) (by kernel_rfl) ?_
                  refine JO_st rfl (wants_none rfl) rfl (st_append 9 Try.underlying26 ti_97 zi_97 rfl bi_97 rfl rfl rfl rfl (fun w hh => hh.src_ow 0 rfl) hz45) (sub_ow 0 rfl) (fun v46 => ?_)
                  refine JD_take (i := 9) hp38 rfl (by kernel_rfl) (by kernel_rfl) (by kernel_rfl) (wants_none rfl) rfl (ex_nilCheck rfl) ?_
                  refine JD_take (i := 10) hp38 rfl (by kernel_rfl) (by kernel_rfl) (by kernel_rfl) (wants_none rfl) rfl (ex_fieldAddr fi_55_4 rfl rfl) ?_
                  refine JD_take (i := 11) hp38 rfl (by kernel_rfl) (by kernel_rfl) (by kernel_rfl) (wants_none rfl) rfl (ex_fieldAddr fi_28_2 rfl rfl) ?_
                  refine JD_one (i := 12) (by kernel_rfl) ?_
                  refine JO_sk rfl (wants_none rfl) (sk_store_bx' 10 ti_26 rfl rfl (fun w hh => (hh.cv_ow 9 rfl)) rfl rfl rfl rfl) (sub_bx 1 rfl) ?_
                  refine JD_done (by kernel_rfl) ?_
                  exact N_meet' v46 ⟨rfl, rfl, rfl, rfl, trivial⟩ [6, 7, 8, 9, 10, 11, 12, 13, 14] rfl rfl
                · refine JO_call rfl (wants_none rfl) rfl Try.call92 rfl (Ca_of0 fun w hh => c_spec_l05None _ w (fun _ hk => hk.elim)  _ hr42) (fun _ => ?_)
                  refine JD_two (i := 5) (j := 7) (by kernel_rfl) ?_ ?_
                  · refine JO_q rfl (wants_none rfl) rfl (ex_load_bx 9 ti_26 rfl rfl rfl) ?_
                    refine JD_one (i := 7) (by kernel_rfl) ?_
                    refine JO_st rfl (wants_none rfl) rfl (st_buildSlice (vs := [.agg #[.int .i64 r41.Write, .int .i64 r41.Move, .int .i64 r41.Next]]) ([r41] : List GRule) Try.underlying26 ti_97 zi_97 rfl rfl rfl (fun w hh => ⟨(GRule.rdmk (Rd.mk_int _ _ _) (Rd.mk_int _ _ _) (Rd.mk_int _ _ _)), trivial⟩)) (fun _ hk => nomatch hk) (fun b47 => ?_)
                    refine JD_bnd fun z48 hz49 => ?_
                    refine JD_one (i := 8) (by kernel_rfl) ?_
                    refine JO_st rfl (wants_none rfl) rfl (st_append 9 Try.underlying26 ti_97 zi_97 rfl bi_97 rfl rfl rfl rfl (fun w hh => hh.src_ow 0 rfl) hz49) (sub_ow 0 rfl) (fun v50 => ?_)
                    refine JD_take (i := 9) hp38 rfl (by kernel_rfl) (by kernel_rfl) (by kernel_rfl) (wants_none rfl) rfl (ex_nilCheck rfl) ?_
                    refine JD_take (i := 10) hp38 rfl (by kernel_rfl) (by kernel_rfl) (by kernel_rfl) (wants_none rfl) rfl (ex_fieldAddr fi_55_4 rfl rfl) ?_
                    refine JD_take (i := 11) hp38 rfl (by kernel_rfl) (by kernel_rfl) (by kernel_rfl) (wants_none rfl) rfl (ex_fieldAddr fi_28_2 rfl rfl) ?_
                    refine JD_one (i := 12) (by kernel_rfl) ?_
                    refine JO_sk rfl (wants_none rfl) (sk_store_bx' 10 ti_26 rfl rfl (fun w hh => (hh.cv_ow 9 rfl)) rfl rfl rfl rfl) (sub_bx 1 rfl) ?_
                    refine JD_done (by kernel_rfl) ?_
                    exact N_meet' v50 ⟨rfl, rfl, rfl, rfl, trivial⟩ [6, 7, 8, 9, 10, 11, 12, 13, 14] rfl rfl
                  · refine JO_st rfl (wants_none rfl) rfl (st_buildSlice (vs := [.agg #[.int .i64 r41.Write, .int .i64 r41.Move, .int .i64 r41.Next]]) ([r41] : List GRule) Try.underlying26 ti_97 zi_97 rfl rfl rfl (fun w hh => ⟨(GRule.rdmk (Rd.mk_int _ _ _) (Rd.mk_int _ _ _) (Rd.mk_int _ _ _)), trivial⟩)) (fun _ hk => nomatch hk) (fun b51 => ?_)
                    refine JD_one (i := 5) (by kernel_rfl) ?_
                    refine JO_q rfl (wants_none rfl) rfl (ex_load_bx 10 ti_26 rfl rfl rfl) ?_
                    refine JD_bnd fun z52 hz53 => ?_
                    refine JD_one (i := 8) (by kernel_rfl) ?_
                    refine JO_st rfl (wants_none rfl) rfl (st_append 9 Try.underlying26 ti_97 zi_97 rfl bi_97 rfl rfl rfl rfl (fun w hh => hh.src_ow 0 rfl) hz53) (sub_ow 0 rfl) (fun v54 => ?_)
                    refine JD_take (i := 9) hp38 rfl (by kernel_rfl) (by kernel_rfl) (by kernel_rfl) (wants_none rfl) rfl (ex_nilCheck rfl) ?_
                    refine JD_take (i := 10) hp38 rfl (by kernel_rfl) (by kernel_rfl) (by kernel_rfl) (wants_none rfl) rfl (ex_fieldAddr fi_55_4 rfl rfl) ?_
                    refine JD_take (i := 11) hp38 rfl (by kernel_rfl) (by kernel_rfl) (by kernel_rfl) (wants_none rfl) rfl (ex_fieldAddr fi_28_2 rfl rfl) ?_
                    refine JD_one (i := 12) (by kernel_rfl) ?_
                    refine JO_sk rfl (wants_none rfl) (sk_store_bx' 10 ti_26 rfl rfl (fun w hh => (hh.cv_ow 9 rfl)) rfl rfl rfl rfl) (sub_bx 1 rfl) ?_
                    refine JD_done (by kernel_rfl) ?_
                    exact N_meet' v54 ⟨rfl, rfl, rfl, rfl, trivial⟩ [6, 7, 8, 9, 10, 11, 12, 13, 14] rfl rfl
              · refine N_then ?_
                refine J_exit ?_
                refine N_then_exit ?_
                refine N_block_exit ?_
                refine N_then ?_
                refine J_region ?_
                refine JL_q (wants_none rfl) rfl (ex_move rfl) ?_
                refine JL_q (wants_none rfl) rfl (ex_add rfl rfl) ?_
                refine JL_q (wants_none rfl) rfl (ex_assign rfl) ?_
                refine JL_nil ?_
                exact N_next' ((.slice (some ⟨b26, 0, none⟩) s21.1.length cap27), g22_1, g37) ⟨rfl, rfl, rfl, rfl, trivial⟩ [0, 1, 2, 3, 4, 5, 6, 7, 8] rfl rfl
            · refine J_skip ?_
              refine N_then ?_
              refine J_seq ?_
              refine J_region ?_
              refine JL_q (wants_none rfl) rfl (ex_move rfl) ?_
              refine JL_q (wants_none rfl) rfl (ex_fieldAddr fi_129_3 rfl rfl) ?_
              refine JL_q (wants_none rfl) rfl (ex_load_bx 0 ti_35 rfl rfl rfl) ?_
              refine JL_inline (wants_none rfl) rfl Try.call43 rfl Try.func43 rfl Try.ntmps43 rfl rfl (fun K_ hK55 => ?_)
              refine J_seq ?_
              refine J_region ?_
              refine JL_q (wants_none rfl) rfl (ex_assign rfl) ?_
              refine JL_nil ?_
              refine N_then ?_
              refine J_seq ?_
              refine J_seq ?_
              refine J_region ?_
              refine JL_q (wants_none rfl) rfl (ex_assign rfl) ?_
              refine JL_nil ?_
              refine N_then ?_
              refine J_loop' (S := Int) (G := Unit) (F_spec_BinaryConfig_L3 s21 r31) (fun s56 _ => [(0, .pointer (some ⟨b13, 0, none⟩)), (1, x33_0), (5, .int .i64 s56)]) (fun s56 _ => [.rd v0_0 p0.Rules, .bx b1 28 [.int .i64 p0.Symbols, .int .i64 p0.States, v0_0], .od 35 (.slice (some ⟨b26, 0, none⟩) s21.1.length cap27) s21.1 g22_1, .ow 97 g22_2 s21.2.1, .bx b13 55 [.pointer (some ⟨b1, 0, none⟩), .pointer none, .int .i64 0, (.slice (some ⟨b26, 0, none⟩) s21.1.length cap27), .int .i64 2, .int .i64 0, g22_2], .rd x33_0 r31.next, .tkn x33_0 r31.next x33_1, .rd v1_0 p1.Left, .rd v1_1 p1.Right, .bx b2 39 [.int .i64 p1.State, v1_0, v1_1], .bx b3 39 [.int .i64 0, .slice none 0 0, .slice none 0 0], .bx b34 129 [.bool r31.ok, .int .i64 r31.write, .int .i64 r31.move, x33_0]]) 0 () ⟨rfl, rfl, rfl, trivial⟩ [5, 6, 7, 8, 9, 1, 2, 10, 11, 12, 13, 0] rfl rfl (fun s56 g57 => ?_) (fun s56 g57 => ?_)
              · unfold F_spec_BinaryConfig_L3
                refine J_seq ?_
                refine J_seq ?_
                refine J_region ?_
                refine JL_q (wants_none rfl) rfl (ex_move rfl) ?_
                refine JL_q (wants_none rfl) rfl (ex_move rfl) ?_
                refine JL_q (wants_none rfl) rfl (ex_nilCheck rfl) ?_
                refine JL_q (wants_none rfl) rfl (ex_fieldAddr fi_55_3 rfl rfl) ?_
                refine JL_q (wants_none rfl) rfl (ex_load_bx 4 ti_53 rfl rfl rfl) ?_
                refine JL_q (wants_none rfl) rfl (ex_od 2 rfl (ex_len_ow 2 Try.underlying53 rfl rfl)) ?_
                refine JL_q (wants_none rfl) rfl (ex_lss rfl rfl) ?_
                refine JL_nil ?_
                refine N_then ?_
                refine J_if rfl (fun h58 => ?_) (fun h58 => ?_)
                · refine J_skip ?_
                  refine N_then ?_
                  refine J_seq ?_
                  refine J_block ?_
                  refine J_seq ?_
                  refine J_region ?_
                  refine JL_q (wants_none rfl) rfl (ex_move rfl) ?_
                  refine JL_q (wants_none rfl) rfl (ex_nilCheck rfl) ?_
                  refine JL_q (wants_none rfl) rfl (ex_fieldAddr fi_55_3 rfl rfl) ?_
                  refine JL_q (wants_none rfl) rfl (ex_load_bx 4 ti_53 rfl rfl rfl) ?_
                  refine JL_q (wants_none rfl) rfl (ex_move rfl) ?_
                  refine JL_bnd fun y59 hy60 => ?_
                  refine JL_q (wants_none rfl) rfl (ex_od 2 rfl (ex_index_ow 2 Try.underlying53 ti_35 rfl rfl rfl hy60)) ?_
                  refine JL_st (wants_none rfl) rfl (st_od 2 rfl (st_load_ow_o 2 (opens_sl _) ti_35 rfl rfl hy60) (fun _ => rfl)) (fun v61 => ?_)
                  refine JL_q (wants_none rfl) rfl (ex_move rfl) ?_
                  refine JL_bnd fun r62 hr63 => ?_
                  refine JL_call (wants_none rfl) rfl Try.call83 rfl (Ca_of0 fun w hh => c_spec_l00Same _ w (fun _ hk => hk.elim) _ _ (hh.rd0 0 rfl) _ _ (hh.rd0 6 rfl) _ hr63) (fun _ => ?_)
                  refine JL_nil ?_
                  refine N_then ?_
                  refine J_if rfl (fun h64 => ?_) (fun h64 => ?_)
                  · refine J_seq ?_
                    refine J_region ?_
                    refine JL_q (wants_none rfl) rfl (ex_move rfl) ?_
                    refine JL_q (wants_none rfl) rfl (ex_assign rfl) ?_
                    refine JL_nil ?_
                    refine N_then ?_
                    refine J_ret ?_
                    refine N_block_ret ?_
                    refine N_then_ret ?_
                    refine N_round_reti ?_
                    refine N_then_ret ?_
                    refine N_inl1 hK55 rfl (rv_tmp rfl) ?_
                    refine JL_q (wants_none rfl) rfl (ex_assign rfl) ?_
                    refine JL_nil ?_
                    refine N_then ?_
                    refine J_seq ?_
                    refine J_cut' (S' := (List (List Int)) × Int) (G' := Value × List Nat) (fun s65 g66 => [(0, .pointer (some ⟨b13, 0, none⟩)), (1, .int .i64 2), (7, .int .i64 s18.2.2), (8, .int .i64 s21.2.2), (9, .pointer (some ⟨b34, 0, none⟩)), (10, .int .i64 s65.2)]) (fun s65 g66 => [.rd v0_0 p0.Rules, .bx b1 28 [.int .i64 p0.Symbols, .int .i64 p0.States, v0_0], .od 35 g66.1 s65.1 g66.2, .ow 97 g22_2 s21.2.1, .bx b13 55 [.pointer (some ⟨b1, 0, none⟩), .pointer none, .int .i64 0, g66.1, .int .i64 2, .int .i64 0, g22_2], .rd x33_0 r31.next, .bx b34 129 [.bool r31.ok, .int .i64 r31.write, .int .i64 r31.move, x33_0], .rd v1_0 p1.Left, .rd v1_1 p1.Right, .bx b2 39 [.int .i64 p1.State, v1_0, v1_1], .bx b3 39 [.int .i64 0, .slice none 0 0, .slice none 0 0]]) ?_ (fun s65 g66 => ?_)
                    · refine J_seq ?_
                      refine J_region ?_
                      refine JL_q (wants_none rfl) rfl (ex_move rfl) ?_
                      refine JL_q (wants_none rfl) rfl (ex_lss rfl rfl) ?_
                      refine JL_nil ?_
                      refine N_then ?_
                      refine J_if rfl (fun h67 => ?_) (fun h67 => ?_)
                      · refine J_seq ?_
                        refine J_seq ?_
                        refine J_region ?_
                        refine JL_q (wants_none rfl) rfl (ex_move rfl) ?_
                        refine JL_q (wants_none rfl) rfl (ex_nilCheck rfl) ?_
                        refine JL_q (wants_none rfl) rfl (ex_fieldAddr fi_55_3 rfl rfl) ?_
                        refine JL_q (wants_none rfl) rfl (ex_load_bx 5 ti_53 rfl rfl rfl) ?_
                        refine JL_q (wants_none rfl) rfl (ex_od 3 rfl (ex_len_ow 3 Try.underlying53 rfl rfl)) ?_
                        refine JL_q (wants_none rfl) rfl (ex_eql rfl rfl) ?_
                        refine JL_nil ?_
                        refine N_then ?_
                        refine J_if rfl (fun h68 => ?_) (fun h68 => ?_)
                        · refine J_seq ?_
                          refine J_region ?_
                          refine JL_q (wants_none rfl) rfl (ex_assign rfl) ?_
                          refine JL_nil ?_
                          refine N_then ?_
                          refine J_ret ?_
                          refine N_then_ret ?_
                          refine N_mid_ret ?_
                          refine N_then_ret ?_
                          refine N_block_ret ?_
                          refine N_then_ret ?_
                          refine N_round_ret ?_
                          refine N_block_ret ?_
                          refine N_then_ret ?_
                          refine N_round_reti ?_
                          refine N_then_ret ?_
                          refine N_inl1 hK15 rfl (rv_tmp rfl) ?_
                          refine JL_q (wants_none rfl) rfl (ex_assign rfl) ?_
                          refine JL_nil ?_
                          refine N_then ?_
                          refine J_seq ?_
                          refine J_region ?_
                          refine JL_q (wants_none rfl) rfl (ex_move rfl) ?_
                          refine JL_q (wants_none rfl) rfl (ex_move rfl) ?_
                          refine JL_q (wants_none rfl) rfl (ex_assign rfl) ?_
                          refine JL_q (wants_none rfl) rfl (ex_assign rfl) ?_
                          refine JL_nil ?_
                          refine N_then ?_
                          refine J_ret ?_
                          refine N_inl2 hK12 rfl (rv_tmp rfl) (rv_tmp rfl) ?_
                          refine JL_q (wants_none rfl) rfl (ex_move rfl) ?_
                          refine JL_q (wants_none rfl) rfl (ex_extract rfl rfl) ?_
                          refine JL_q (wants_none rfl) rfl (ex_extract rfl rfl) ?_
                          refine JL_q (wants_none rfl) rfl (ex_assign rfl) ?_
                          refine JL_q (wants_none rfl) rfl (ex_assign rfl) ?_
                          refine JL_nil ?_
                          refine N_then ?_
                          refine J_seq ?_
                          refine J_seq ?_
                          refine J_region ?_
                          refine JL_q (wants_none rfl) rfl (ex_move rfl) ?_
                          refine JL_q (wants_none rfl) rfl (ex_not rfl) ?_
                          refine JL_nil ?_
                          refine N_then ?_
                          refine J_if_true rfl (by rw [show (false) = false from rfl]; rfl) ?_
                          refine J_seq ?_
                          refine J_region ?_
                          refine JL_q (wants_none rfl) rfl (ex_build si_39 rfl .nil (fun w hh => trivial)) ?_
                          refine JL_sk (wants_none rfl) (sk_store_bx' 11 ti_39 rfl rfl (fun w hh => (cv_aggs ⟨cv_int, cv_slice, cv_slice, trivial⟩)) rfl rfl rfl rfl) ?_
                          refine JL_q (wants_none rfl) rfl (ex_assign rfl) ?_
                          refine JL_nil ?_
                          refine N_then ?_
                          refine J_ret ?_
                          refine N_then_ret ?_
                          refine N_ctx (fun w hh => SH.ow_nil (α := Int) 2 hh) ?_
                          refine N_ctx (fun w hh => SH.ow_nil (α := Int) 2 hh) ?_
                          exact N_ret2 rfl (rv_cell 13 rfl rfl ti_39 rfl) (rv_tmp rfl) (fun w hh => ⟨((.slice none 0 0 : Value), (.slice none 0 0 : Value)), rfl, hh.sel [1, 0] rfl⟩)
                        · refine J_skip ?_
                          refine N_then ?_
                          refine J_seq ?_
                          refine J_region ?_
                          refine JL_q (wants_none rfl) rfl (ex_move rfl) ?_
                          refine JL_q (wants_none rfl) rfl (ex_nilCheck rfl) ?_
                          refine JL_q (wants_none rfl) rfl (ex_fieldAddr fi_55_3 rfl rfl) ?_
                          refine JL_q (wants_none rfl) rfl (ex_load_bx 5 ti_53 rfl rfl rfl) ?_
                          refine JL_q (wants_none rfl) rfl (ex_od 3 rfl (ex_len_ow 3 Try.underlying53 rfl rfl)) ?_
                          refine JL_q (wants_none rfl) rfl (ex_assign rfl) ?_
                          refine JL_nil ?_
                          refine N_then ?_
                          refine J_draw [3, 5] (by kernel_rfl) ?_
                          refine JP_take (i := 0) [0, 1, 2, 4, 6, 7, 8, 9, 10, 11, 12] [3, 5] rfl (by kernel_rfl) (by kernel_rfl) (by kernel_rfl) rfl rfl (wants_none rfl) rfl (ex_move rfl) ?_
                          refine JP_take (i := 1) [0, 1, 2, 4, 6, 7, 8, 9, 10, 11, 12] [3, 5] rfl (by kernel_rfl) (by kernel_rfl) (by kernel_rfl) rfl rfl (wants_none rfl) rfl (ex_move rfl) ?_
                          refine JP_take (i := 2) [0, 1, 2, 4, 6, 7, 8, 9, 10, 11, 12] [3, 5] rfl (by kernel_rfl) (by kernel_rfl) (by kernel_rfl) rfl rfl (wants_none rfl) rfl (ex_nilCheck rfl) ?_
                          refine JP_take (i := 3) [0, 1, 2, 4, 6, 7, 8, 9, 10, 11, 12] [3, 5] rfl (by kernel_rfl) (by kernel_rfl) (by kernel_rfl) rfl rfl (wants_none rfl) rfl (ex_fieldAddr fi_55_3 rfl rfl) ?_
                          refine JP_take (i := 5) [0, 1, 2, 4, 6, 7, 8, 9, 10, 11, 12] [3, 5] rfl (by kernel_rfl) (by kernel_rfl) (by kernel_rfl) rfl rfl (wants_none rfl) rfl (ex_fieldAddr fi_129_3 rfl rfl) ?_
                          refine JP_take (i := 6) [0, 1, 2, 4, 6, 7, 8, 9, 10, 11, 12] [3, 5] rfl (by kernel_rfl) (by kernel_rfl) (by kernel_rfl) rfl rfl (wants_none rfl) rfl (ex_load_bx 10 ti_35 rfl rfl rfl) ?_
                          refine JP_go [0, 1, 2, 4, 6, 7, 8, 9, 10, 11, 12] [3, 5] rfl rfl rfl (fun w70 h1_71 hp69 => ?_)
                          refine JD_two (i := 4) (j := 7) (by kernel_rfl) ?_ ?_
                          · refine JO_q rfl (wants_none rfl) rfl (ex_load_bx 5 ti_53 rfl rfl rfl) ?_
                            refine JD_one (i := 7) (by kernel_rfl) ?_
                            refine JO_st rfl (wants_none rfl) rfl (st_buildSlice_od (vs := [x33_0]) (B := (x33_1 ++ [])) ([r31.next] : List (List Int)) [7] Try.underlying53 ti_35 zi_35 rfl rfl rfl rfl rfl (fun w hh => (dwv_cons (hh.dw 7 rfl) dwv_nil))) (fun _ hk => nomatch hk) (fun b72 => ?_)
                            refine JD_bnd fun z73 hz74 => ?_
                            refine JD_one (i := 8) (by kernel_rfl) ?_
                            refine JO_st rfl (wants_none rfl) rfl (st_append_od 4 0 Try.underlying53 ti_35 zi_35 rfl bi_35 rfl rfl rfl rfl rfl rfl hz74) (sub_od 0 rfl) (fun v75 => ?_)
                            refine JD_take (i := 9) hp69 rfl (by kernel_rfl) (by kernel_rfl) (by kernel_rfl) (wants_none rfl) rfl (ex_nilCheck rfl) ?_
                            refine JD_take (i := 10) hp69 rfl (by kernel_rfl) (by kernel_rfl) (by kernel_rfl) (wants_none rfl) rfl (ex_fieldAddr fi_55_3 rfl rfl) ?_
                            refine JD_one (i := 11) (by kernel_rfl) ?_
                            refine JO_sk rfl (wants_none rfl) (sk_store_bx' 6 ti_53 rfl rfl (fun w hh => (hh.cv_od 4 rfl)) rfl rfl rfl rfl) (sub_bx 1 rfl) ?_
                            refine JD_done (by kernel_rfl) ?_
                            exact N_meet' (v75, (g22_1 ++ (x33_1 ++ []))) ⟨rfl, rfl, rfl, rfl, rfl, rfl, trivial⟩ [2, 3, 4, 5, 6, 7, 13, 9, 10, 11, 12] rfl rfl
                          · refine JO_st rfl (wants_none rfl) rfl (st_buildSlice_od (vs := [x33_0]) (B := (x33_1 ++ [])) ([r31.next] : List (List Int)) [7] Try.underlying53 ti_35 zi_35 rfl rfl rfl rfl rfl (fun w hh => (dwv_cons (hh.dw 7 rfl) dwv_nil))) (fun _ hk => nomatch hk) (fun b76 => ?_)
                            refine JD_one (i := 4) (by kernel_rfl) ?_
                            refine JO_q rfl (wants_none rfl) rfl (ex_load_bx 6 ti_53 rfl rfl rfl) ?_
                            refine JD_bnd fun z77 hz78 => ?_
                            refine JD_one (i := 8) (by kernel_rfl) ?_
                            refine JO_st rfl (wants_none rfl) rfl (st_append_od 4 0 Try.underlying53 ti_35 zi_35 rfl bi_35 rfl rfl rfl rfl rfl rfl hz78) (sub_od 0 rfl) (fun v79 => ?_)
                            refine JD_take (i := 9) hp69 rfl (by kernel_rfl) (by kernel_rfl) (by kernel_rfl) (wants_none rfl) rfl (ex_nilCheck rfl) ?_
                            refine JD_take (i := 10) hp69 rfl (by kernel_rfl) (by kernel_rfl) (by kernel_rfl) (wants_none rfl) rfl (ex_fieldAddr fi_55_3 rfl rfl) ?_
                            refine JD_one (i := 11) (by kernel_rfl) ?_
                            refine JO_sk rfl (wants_none rfl) (sk_store_bx' 6 ti_53 rfl rfl (fun w hh => (hh.cv_od 4 rfl)) rfl rfl rfl rfl) (sub_bx 1 rfl) ?_
                            refine JD_done (by kernel_rfl) ?_
                            exact N_meet' (v79, (g22_1 ++ (x33_1 ++ []))) ⟨rfl, rfl, rfl, rfl, rfl, rfl, trivial⟩ [2, 3, 4, 5, 6, 7, 13, 9, 10, 11, 12] rfl rfl
                      · refine J_skip ?_
                        exact N_meet' ((.slice (some ⟨b26, 0, none⟩) s21.1.length cap27), g22_1) ⟨rfl, rfl, rfl, rfl, rfl, rfl, trivial⟩ [1, 2, 3, 4, 5, 6, 12, 8, 9, 10, 11] rfl rfl
                    · obtain ⟨g66_0, g66_1⟩ := g66
                      refine N_then ?_
                      refine J_draw [3, 4] (by kernel_rfl) ?_
                      refine JP_take (i := 0) [0, 1, 2, 5, 6, 7, 8, 9, 10] [3, 4] rfl (by kernel_rfl) (by kernel_rfl) (by kernel_rfl) rfl rfl (wants_none rfl) rfl (ex_move rfl) ?_
                      refine JP_take (i := 1) [0, 1, 2, 5, 6, 7, 8, 9, 10] [3, 4] rfl (by kernel_rfl) (by kernel_rfl) (by kernel_rfl) rfl rfl (wants_none rfl) rfl (ex_move rfl) ?_
                      refine JP_take (i := 2) [0, 1, 2, 5, 6, 7, 8, 9, 10] [3, 4] rfl (by kernel_rfl) (by kernel_rfl) (by kernel_rfl) rfl rfl (wants_none rfl) rfl (ex_nilCheck rfl) ?_
                      refine JP_take (i := 3) [0, 1, 2, 5, 6, 7, 8, 9, 10] [3, 4] rfl (by kernel_rfl) (by kernel_rfl) (by kernel_rfl) rfl rfl (wants_none rfl) rfl (ex_fieldAddr fi_55_4 rfl rfl) ?_
                      refine JP_take (i := 4) [0, 1, 2, 5, 6, 7, 8, 9, 10] [3, 4] rfl (by kernel_rfl) (by kernel_rfl) (by kernel_rfl) rfl rfl (wants_none rfl) rfl (ex_fieldAddr fi_28_2 rfl rfl) ?_
                      refine JP_take (i := 6) [0, 1, 2, 5, 6, 7, 8, 9, 10] [3, 4] rfl (by kernel_rfl) (by kernel_rfl) (by kernel_rfl) rfl rfl (wants_none rfl) rfl (ex_fieldAddr fi_129_1 rfl rfl) ?_
                      refine JP_take (i := 7) [0, 1, 2, 5, 6, 7, 8, 9, 10] [3, 4] rfl (by kernel_rfl) (by kernel_rfl) (by kernel_rfl) rfl rfl (wants_none rfl) rfl (ex_load_bx 4 ti_2 rfl rfl rfl) ?_
                      refine JP_take (i := 8) [0, 1, 2, 5, 6, 7, 8, 9, 10] [3, 4] rfl (by kernel_rfl) (by kernel_rfl) (by kernel_rfl) rfl rfl (wants_none rfl) rfl (ex_fieldAddr fi_129_2 rfl rfl) ?_
                      refine JP_take (i := 9) [0, 1, 2, 5, 6, 7, 8, 9, 10] [3, 4] rfl (by kernel_rfl) (by kernel_rfl) (by kernel_rfl) rfl rfl (wants_none rfl) rfl (ex_load_bx 4 ti_2 rfl rfl rfl) ?_
                      refine JP_take (i := 10) [0, 1, 2, 5, 6, 7, 8, 9, 10] [3, 4] rfl (by kernel_rfl) (by kernel_rfl) (by kernel_rfl) rfl rfl (wants_none rfl) rfl (ex_move rfl) ?_
                      refine JP_take (i := 11) [0, 1, 2, 5, 6, 7, 8, 9, 10] [3, 4] rfl (by kernel_rfl) (by kernel_rfl) (by kernel_rfl) rfl rfl (wants_none rfl) rfl (ex_build si_97 rfl (.cons fi_97_0 rfl rfl (.cons fi_97_1 rfl rfl (.cons fi_97_2 rfl rfl .nil))) (fun w hh => ⟨cv_int, cv_int, cv_int, trivial⟩)) ?_
                      refine JP_go [0, 1, 2, 5, 6, 7, 8, 9, 10] [3, 4] rfl rfl rfl (fun w81 h1_82 hp80 => ?_)
                      refine JD_two (i := 5) (j := 12) (by kernel_rfl) ?_ ?_
                      · refine JO_q rfl (wants_none rfl) rfl (ex_load_bx 4 ti_26 rfl rfl rfl) ?_
                        refine JD_one (i := 12) (by kernel_rfl) ?_
                        refine JO_st rfl (wants_none rfl) rfl (st_buildSlice (vs := [.agg #[.int .i64 r31.write, .int .i64 r31.move, .int .i64 s65.2]]) ([(⟨r31.write, r31.move, s65.2⟩ : GRule)] : List GRule) Try.underlying26 ti_97 zi_97 rfl rfl rfl (fun w hh => ⟨(GRule.rdmk (Rd.mk_int _ _ _) (Rd.mk_int _ _ _) (Rd.mk_int _ _ _)), trivial⟩)) (fun _ hk => nomatch hk) (fun b83 => ?_)
                        refine JD_bnd fun z84 hz85 => ?_
                        refine JD_one (i := 13) (by kernel_rfl) ?_
                        refine JO_st rfl (wants_none rfl) rfl (st_append 4 Try.underlying26 ti_97 zi_97 rfl bi_97 rfl rfl rfl rfl (fun w hh => hh.src_ow 0 rfl) hz85) (sub_ow 0 rfl) (fun v86 => ?_)
                        refine JD_take (i := 14) hp80 rfl (by kernel_rfl) (by kernel_rfl) (by kernel_rfl) (wants_none rfl) rfl (ex_nilCheck rfl) ?_
                        refine JD_take (i := 15) hp80 rfl (by kernel_rfl) (by kernel_rfl) (by kernel_rfl) (wants_none rfl) rfl (ex_fieldAddr fi_55_4 rfl rfl) ?_
                        refine JD_take (i := 16) hp80 rfl (by kernel_rfl) (by kernel_rfl) (by kernel_rfl) (wants_none rfl) rfl (ex_fieldAddr fi_28_2 rfl rfl) ?_
                        refine JD_one (i := 17) (by kernel_rfl) ?_
                        refine JO_sk rfl (wants_none rfl) (sk_store_bx' 5 ti_26 rfl rfl (fun w hh => (hh.cv_ow 4 rfl)) rfl rfl rfl rfl) (sub_bx 1 rfl) ?_
                        refine JD_done (by kernel_rfl) ?_
                        refine N_block ?_
                        refine N_then ?_
                        refine J_region ?_
                        refine JL_q (wants_none rfl) rfl (ex_move rfl) ?_
                        refine JL_q (wants_none rfl) rfl (ex_add rfl rfl) ?_
                        refine JL_q (wants_none rfl) rfl (ex_assign rfl) ?_
                        refine JL_nil ?_
                        exact N_next' (g66_0, g66_1, v86) ⟨rfl, rfl, rfl, rfl, trivial⟩ [1, 2, 3, 4, 5, 8, 9, 10, 11] rfl rfl
                      · refine JO_st rfl (wants_none rfl) rfl (st_buildSlice (vs := [.agg #[.int .i64 r31.write, .int .i64 r31.move, .int .i64 s65.2]]) ([(⟨r31.write, r31.move, s65.2⟩ : GRule)] : List GRule) Try.underlying26 ti_97 zi_97 rfl rfl rfl (fun w hh => ⟨(GRule.rdmk (Rd.mk_int _ _ _) (Rd.mk_int _ _ _) (Rd.mk_int _ _ _)), trivial⟩)) (fun _ hk => nomatch hk) (fun b87 => ?_)
                        refine JD_one (i := 5) (by kernel_rfl) ?_
                        refine JO_q rfl (wants_none rfl) rfl (ex_load_bx 5 ti_26 rfl rfl rfl) ?_
                        refine JD_bnd fun z88 hz89 => ?_
                        refine JD_one (i := 13) (by kernel_rfl) ?_
                        refine JO_st rfl (wants_none rfl) rfl (st_append 4 Try.underlying26 ti_97 zi_97 rfl bi_97 rfl rfl rfl rfl (fun w hh => hh.src_ow 0 rfl) hz89) (sub_ow 0 rfl) (fun v90 => ?_)
                        refine JD_take (i := 14) hp80 rfl (by kernel_rfl) (by kernel_rfl) (by kernel_rfl) (wants_none rfl) rfl (ex_nilCheck rfl) ?_
                        refine JD_take (i := 15) hp80 rfl (by kernel_rfl) (by kernel_rfl) (by kernel_rfl) (wants_none rfl) rfl (ex_fieldAddr fi_55_4 rfl rfl) ?_
                        refine JD_take (i := 16) hp80 rfl (by kernel_rfl) (by kernel_rfl) (by kernel_rfl) (wants_none rfl) rfl (ex_fieldAddr fi_28_2 rfl rfl) ?_
                        refine JD_one (i := 17) (by kernel_rfl) ?_
                        refine JO_sk rfl (wants_none rfl) (sk_store_bx' 5 ti_26 rfl rfl (fun w hh => (hh.cv_ow 4 rfl)) rfl rfl rfl rfl) (sub_bx 1 rfl) ?_
                        refine JD_done (by kernel_rfl) ?_
                        refine N_block ?_
                        refine N_then ?_
                        refine J_region ?_
                        refine JL_q (wants_none rfl) rfl (ex_move rfl) ?_
                        refine JL_q (wants_none rfl) rfl (ex_add rfl rfl) ?_
                        refine JL_q (wants_none rfl) rfl (ex_assign rfl) ?_
                        refine JL_nil ?_
                        exact N_next' (g66_0, g66_1, v90) ⟨rfl, rfl, rfl, rfl, trivial⟩ [1, 2, 3, 4, 5, 8, 9, 10, 11] rfl rfl
                  · refine J_skip ?_
                    refine N_block ?_
                    refine N_then ?_
                    refine J_region ?_
                    refine JL_q (wants_none rfl) rfl (ex_move rfl) ?_
                    refine JL_q (wants_none rfl) rfl (ex_add rfl rfl) ?_
                    refine JL_q (wants_none rfl) rfl (ex_assign rfl) ?_
                    refine JL_nil ?_
                    exact N_next' () ⟨rfl, rfl, rfl, trivial⟩ [1, 2, 3, 4, 5, 6, 7, 8, 9, 10, 11, 12] rfl rfl
                · refine J_exit ?_
                  refine N_then_exit ?_
                  exact N_break' () ⟨rfl, rfl, rfl, trivial⟩ [0, 1, 2, 3, 4, 5, 6, 7, 8, 9, 10, 11] rfl rfl
              · refine N_then ?_
                refine J_seq ?_
                refine J_region ?_
                refine JL_q (wants_none rfl) rfl (ex_assign rfl) ?_
                refine JL_nil ?_
                refine N_then ?_
                refine J_ret ?_
                refine N_inl1 hK55 rfl (rv_tmp rfl) ?_
                refine JL_q (wants_none rfl) rfl (ex_assign rfl) ?_
                refine JL_nil ?_
                refine N_then ?_
                refine J_seq ?_
                refine J_cut' (S' := (List (List Int)) × Int) (G' := Value × List Nat) (fun s91 g92 => [(0, .pointer (some ⟨b13, 0, none⟩)), (1, .int .i64 2), (7, .int .i64 s18.2.2), (8, .int .i64 s21.2.2), (9, .pointer (some ⟨b34, 0, none⟩)), (10, .int .i64 s91.2)]) (fun s91 g92 => [.rd v0_0 p0.Rules, .bx b1 28 [.int .i64 p0.Symbols, .int .i64 p0.States, v0_0], .od 35 g92.1 s91.1 g92.2, .ow 97 g22_2 s21.2.1, .bx b13 55 [.pointer (some ⟨b1, 0, none⟩), .pointer none, .int .i64 0, g92.1, .int .i64 2, .int .i64 0, g22_2], .rd x33_0 r31.next, .bx b34 129 [.bool r31.ok, .int .i64 r31.write, .int .i64 r31.move, x33_0], .rd v1_0 p1.Left, .rd v1_1 p1.Right, .bx b2 39 [.int .i64 p1.State, v1_0, v1_1], .bx b3 39 [.int .i64 0, .slice none 0 0, .slice none 0 0]]) ?_ (fun s91 g92 => ?_)
                · refine J_seq ?_
                  refine J_region ?_
                  refine JL_q (wants_none rfl) rfl (ex_move rfl) ?_
                  refine JL_q (wants_none rfl) rfl (ex_lss rfl rfl) ?_
                  refine JL_nil ?_
                  refine N_then ?_
                  refine J_if_true rfl (by decide) ?_
                  refine J_seq ?_
                  refine J_seq ?_
                  refine J_region ?_
                  refine JL_q (wants_none rfl) rfl (ex_move rfl) ?_
                  refine JL_q (wants_none rfl) rfl (ex_nilCheck rfl) ?_
                  refine JL_q (wants_none rfl) rfl (ex_fieldAddr fi_55_3 rfl rfl) ?_
                  refine JL_q (wants_none rfl) rfl (ex_load_bx 4 ti_53 rfl rfl rfl) ?_
                  refine JL_q (wants_none rfl) rfl (ex_od 2 rfl (ex_len_ow 2 Try.underlying53 rfl rfl)) ?_
                  refine JL_q (wants_none rfl) rfl (ex_eql rfl rfl) ?_
                  refine JL_nil ?_
                  refine N_then ?_
                  refine J_if rfl (fun h93 => ?_) (fun h93 => ?_)
                  · refine J_seq ?_
                    refine J_region ?_
                    refine JL_q (wants_none rfl) rfl (ex_assign rfl) ?_
                    refine JL_nil ?_
                    refine N_then ?_
                    refine J_ret ?_
                    refine N_then_ret ?_
                    refine N_mid_ret ?_
                    refine N_then_ret ?_
                    refine N_block_ret ?_
                    refine N_then_ret ?_
                    refine N_round_ret ?_
                    refine N_block_ret ?_
                    refine N_then_ret ?_
                    refine N_round_reti ?_
                    refine N_then_ret ?_
                    refine N_inl1 hK15 rfl (rv_tmp rfl) ?_
                    refine JL_q (wants_none rfl) rfl (ex_assign rfl) ?_
                    refine JL_nil ?_
                    refine N_then ?_
                    refine J_seq ?_
                    refine J_region ?_
                    refine JL_q (wants_none rfl) rfl (ex_move rfl) ?_
                    refine JL_q (wants_none rfl) rfl (ex_move rfl) ?_
                    refine JL_q (wants_none rfl) rfl (ex_assign rfl) ?_
                    refine JL_q (wants_none rfl) rfl (ex_assign rfl) ?_
                    refine JL_nil ?_
                    refine N_then ?_
                    refine J_ret ?_
                    refine N_inl2 hK12 rfl (rv_tmp rfl) (rv_tmp rfl) ?_
                    refine JL_q (wants_none rfl) rfl (ex_move rfl) ?_
                    refine JL_q (wants_none rfl) rfl (ex_extract rfl rfl) ?_
                    refine JL_q (wants_none rfl) rfl (ex_extract rfl rfl) ?_
                    refine JL_q (wants_none rfl) rfl (ex_assign rfl) ?_
                    refine JL_q (wants_none rfl) rfl (ex_assign rfl) ?_
                    refine JL_nil ?_
                    refine N_then ?_
                    refine J_seq ?_
                    refine J_seq ?_
                    refine J_region ?_
                    refine JL_q (wants_none rfl) rfl (ex_move rfl) ?_
                    refine JL_q (wants_none rfl) rfl (ex_not rfl) ?_
                    refine JL_nil ?_
                    refine N_then ?_
                    refine J_if_true rfl (by rw [show (false) = false from rfl]; rfl) ?_
                    refine J_seq ?_
                    refine J_region ?_
                    refine JL_q (wants_none rfl) rfl (ex_build si_39 rfl .nil (fun w hh => trivial)) ?_
                    refine JL_sk (wants_none rfl) (sk_store_bx' 10 ti_39 rfl rfl (fun w hh => (cv_aggs ⟨cv_int, cv_slice, cv_slice, trivial⟩)) rfl rfl rfl rfl) ?_
                    refine JL_q (wants_none rfl) rfl (ex_assign rfl) ?_
                    refine JL_nil ?_
                    refine N_then ?_
                    refine J_ret ?_
                    refine N_then_ret ?_
                    refine N_ctx (fun w hh => SH.ow_nil (α := Int) 2 hh) ?_
                    refine N_ctx (fun w hh => SH.ow_nil (α := Int) 2 hh) ?_
                    exact N_ret2 rfl (rv_cell 12 rfl rfl ti_39 rfl) (rv_tmp rfl) (fun w hh => ⟨((.slice none 0 0 : Value), (.slice none 0 0 : Value)), rfl, hh.sel [1, 0] rfl⟩)
                  · refine J_skip ?_
                    refine N_then ?_
                    refine J_seq ?_
                    refine J_region ?_
                    refine JL_q (wants_none rfl) rfl (ex_move rfl) ?_
                    refine JL_q (wants_none rfl) rfl (ex_nilCheck rfl) ?_
                    refine JL_q (wants_none rfl) rfl (ex_fieldAddr fi_55_3 rfl rfl) ?_
                    refine JL_q (wants_none rfl) rfl (ex_load_bx 4 ti_53 rfl rfl rfl) ?_
                    refine JL_q (wants_none rfl) rfl (ex_od 2 rfl (ex_len_ow 2 Try.underlying53 rfl rfl)) ?_
                    refine JL_q (wants_none rfl) rfl (ex_assign rfl) ?_
                    refine JL_nil ?_
                    refine N_then ?_
                    refine J_draw [2, 4] (by kernel_rfl) ?_
                    refine JP_take (i := 0) [0, 1, 3, 5, 6, 7, 8, 9, 10, 11] [2, 4] rfl (by kernel_rfl) (by kernel_rfl) (by kernel_rfl) rfl rfl (wants_none rfl) rfl (ex_move rfl) ?_
                    refine JP_take (i := 1) [0, 1, 3, 5, 6, 7, 8, 9, 10, 11] [2, 4] rfl (by kernel_rfl) (by kernel_rfl) (by kernel_rfl) rfl rfl (wants_none rfl) rfl (ex_move rfl) ?_
                    refine JP_take (i := 2) [0, 1, 3, 5, 6, 7, 8, 9, 10, 11] [2, 4] rfl (by kernel_rfl) (by kernel_rfl) (by kernel_rfl) rfl rfl (wants_none rfl) rfl (ex_nilCheck rfl) ?_
                    refine JP_take (i := 3) [0, 1, 3, 5, 6, 7, 8, 9, 10, 11] [2, 4] rfl (by kernel_rfl) (by kernel_rfl) (by kernel_rfl) rfl rfl (wants_none rfl) rfl (ex_fieldAddr fi_55_3 rfl rfl) ?_
                    refine JP_take (i := 5) [0, 1, 3, 5, 6, 7, 8, 9, 10, 11] [2, 4] rfl (by kernel_rfl) (by kernel_rfl) (by kernel_rfl) rfl rfl (wants_none rfl) rfl (ex_fieldAddr fi_129_3 rfl rfl) ?_
                    refine JP_take (i := 6) [0, 1, 3, 5, 6, 7, 8, 9, 10, 11] [2, 4] rfl (by kernel_rfl) (by kernel_rfl) (by kernel_rfl) rfl rfl (wants_none rfl) rfl (ex_load_bx 9 ti_35 rfl rfl rfl) ?_
                    refine JP_go [0, 1, 3, 5, 6, 7, 8, 9, 10, 11] [2, 4] rfl rfl rfl (fun w95 h1_96 hp94 => ?_)
                    refine JD_two (i := 4) (j := 7) (by kernel_rfl) ?_ ?_
                    · refine JO_q rfl (wants_none rfl) rfl (ex_load_bx 4 ti_53 rfl rfl rfl) ?_
                      refine JD_one (i := 7) (by kernel_rfl) ?_
                      refine JO_st rfl (wants_none rfl) rfl (st_buildSlice_od (vs := [x33_0]) (B := (x33_1 ++ [])) ([r31.next] : List (List Int)) [6] Try.underlying53 ti_35 zi_35 rfl rfl rfl rfl rfl (fun w hh => (dwv_cons (hh.dw 6 rfl) dwv_nil))) (fun _ hk => nomatch hk) (fun b97 => ?_)
                      refine JD_bnd fun z98 hz99 => ?_
                      refine JD_one (i := 8) (by kernel_rfl) ?_
                      refine JO_st rfl (wants_none rfl) rfl (st_append_od 3 0 Try.underlying53 ti_35 zi_35 rfl bi_35 rfl rfl rfl rfl rfl rfl hz99) (sub_od 0 rfl) (fun v100 => ?_)
                      refine JD_take (i := 9) hp94 rfl (by kernel_rfl) (by kernel_rfl) (by kernel_rfl) (wants_none rfl) rfl (ex_nilCheck rfl) ?_
                      refine JD_take (i := 10) hp94 rfl (by kernel_rfl) (by kernel_rfl) (by kernel_rfl) (wants_none rfl) rfl (ex_fieldAddr fi_55_3 rfl rfl) ?_
                      refine JD_one (i := 11) (by kernel_rfl) ?_
                      refine JO_sk rfl (wants_none rfl) (sk_store_bx' 5 ti_53 rfl rfl (fun w hh => (hh.cv_od 3 rfl)) rfl rfl rfl rfl) (sub_bx 1 rfl) ?_
                      refine JD_done (by kernel_rfl) ?_
                      exact N_meet' (v100, (g22_1 ++ (x33_1 ++ []))) ⟨rfl, rfl, rfl, rfl, rfl, rfl, trivial⟩ [1, 2, 3, 4, 5, 6, 12, 8, 9, 10, 11] rfl rfl
                    · refine JO_st rfl (wants_none rfl) rfl (st_buildSlice_od (vs := [x33_0]) (B := (x33_1 ++ [])) ([r31.next] : List (List Int)) [6] Try.underlying53 ti_35 zi_35 rfl rfl rfl rfl rfl (fun w hh => (dwv_cons (hh.dw 6 rfl) dwv_nil))) (fun _ hk => nomatch hk) (fun b101 => ?_)
                      refine JD_one (i := 4) (by kernel_rfl) ?_
                      refine JO_q rfl (wants_none rfl) rfl (ex_load_bx 5 ti_53 rfl rfl rfl) ?_
                      refine JD_bnd fun z102 hz103 => ?_
                      refine JD_one (i := 8) (by kernel_rfl) ?_
                      refine JO_st rfl (wants_none rfl) rfl (st_append_od 3 0 Try.underlying53 ti_35 zi_35 rfl bi_35 rfl rfl rfl rfl rfl rfl hz103) (sub_od 0 rfl) (fun v104 => ?_)
                      refine JD_take (i := 9) hp94 rfl (by kernel_rfl) (by kernel_rfl) (by kernel_rfl) (wants_none rfl) rfl (ex_nilCheck rfl) ?_
                      refine JD_take (i := 10) hp94 rfl (by kernel_rfl) (by kernel_rfl) (by kernel_rfl) (wants_none rfl) rfl (ex_fieldAddr fi_55_3 rfl rfl) ?_
                      refine JD_one (i := 11) (by kernel_rfl) ?_
                      refine JO_sk rfl (wants_none rfl) (sk_store_bx' 5 ti_53 rfl rfl (fun w hh => (hh.cv_od 3 rfl)) rfl rfl rfl rfl) (sub_bx 1 rfl) ?_
                      refine JD_done (by kernel_rfl) ?_
                      exact N_meet' (v104, (g22_1 ++ (x33_1 ++ []))) ⟨rfl, rfl, rfl, rfl, rfl, rfl, trivial⟩ [1, 2, 3, 4, 5, 6, 12, 8, 9, 10, 11] rfl rfl
                · obtain ⟨g92_0, g92_1⟩ := g92
                  refine N_then ?_
                  refine J_draw [3, 4] (by kernel_rfl) ?_
                  refine JP_take (i := 0) [0, 1, 2, 5, 6, 7, 8, 9, 10] [3, 4] rfl (by kernel_rfl) (by kernel_rfl) (by kernel_rfl) rfl rfl (wants_none rfl) rfl (ex_move rfl) ?_
                  refine JP_take (i := 1) [0, 1, 2, 5, 6, 7, 8, 9, 10] [3, 4] rfl (by kernel_rfl) (by kernel_rfl) (by kernel_rfl) rfl rfl (wants_none rfl) rfl (ex_move rfl) ?_
                  refine JP_take (i := 2) [0, 1, 2, 5, 6, 7, 8, 9, 10] [3, 4] rfl (by kernel_rfl) (by kernel_rfl) (by kernel_rfl) rfl rfl (wants_none rfl) rfl (ex_nilCheck rfl) ?_
                  refine JP_take (i := 3) [0, 1, 2, 5, 6, 7, 8, 9, 10] [3, 4] rfl (by kernel_rfl) (by kernel_rfl) (by kernel_rfl) rfl rfl (wants_none rfl) rfl (ex_fieldAddr fi_55_4 rfl rfl) ?_
                  refine JP_take (i := 4) [0, 1, 2, 5, 6, 7, 8, 9, 10] [3, 4] rfl (by kernel_rfl) (by kernel_rfl) (by kernel_rfl) rfl rfl (wants_none rfl) rfl (ex_fieldAddr fi_28_2 rfl rfl) ?_
                  refine JP_take (i := 6) [0, 1, 2, 5, 6, 7, 8, 9, 10] [3, 4] rfl (by kernel_rfl) (by kernel_rfl) (by kernel_rfl) rfl rfl (wants_none rfl) rfl (ex_fieldAddr fi_129_1 rfl rfl) ?_
                  refine JP_take (i := 7) [0, 1, 2, 5, 6, 7, 8, 9, 10] [3, 4] rfl (by kernel_rfl) (by kernel_rfl) (by kernel_rfl) rfl rfl (wants_none rfl) rfl (ex_load_bx 4 ti_2 rfl rfl rfl) ?_
                  refine JP_take (i := 8) [0, 1, 2, 5, 6, 7, 8, 9, 10] [3, 4] rfl (by kernel_rfl) (by kernel_rfl) (by kernel_rfl) rfl rfl (wants_none rfl) rfl (ex_fieldAddr fi_129_2 rfl rfl) ?_
                  refine JP_take (i := 9) [0, 1, 2, 5, 6, 7, 8, 9, 10] [3, 4] rfl (by kernel_rfl) (by kernel_rfl) (by kernel_rfl) rfl rfl (wants_none rfl) rfl (ex_load_bx 4 ti_2 rfl rfl rfl) ?_
                  refine JP_take (i := 10) [0, 1, 2, 5, 6, 7, 8, 9, 10] [3, 4] rfl (by kernel_rfl) (by kernel_rfl) (by kernel_rfl) rfl rfl (wants_none rfl) rfl (ex_move rfl) ?_
                  refine JP_take (i := 11) [0, 1, 2, 5, 6, 7, 8, 9, 10] [3, 4] rfl (by kernel_rfl) (by kernel_rfl) (by kernel_rfl) rfl rfl (wants_none rfl) rfl (ex_build si_97 rfl (.cons fi_97_0 rfl rfl (.cons fi_97_1 rfl rfl (.cons fi_97_2 rfl rfl .nil))) (fun w hh => ⟨cv_int, cv_int, cv_int, trivial⟩)) ?_
                  refine JP_go [0, 1, 2, 5, 6, 7, 8, 9, 10] [3, 4] rfl rfl rfl (fun w106 h1_107 hp105 => ?_)
                  refine JD_two (i := 5) (j := 12) (by kernel_rfl) ?_ ?_
                  · refine JO_q rfl (wants_none rfl) rfl (ex_load_bx 4 ti_26 rfl rfl rfl) ?_
                    refine JD_one (i := 12) (by kernel_rfl) ?_
                    refine JO_st rfl (wants_none rfl) rfl (st_buildSlice (vs := [.agg #[.int .i64 r31.write, .int .i64 r31.move, .int .i64 s91.2]]) ([(⟨r31.write, r31.move, s91.2⟩ : GRule)] : List GRule) Try.underlying26 ti_97 zi_97 rfl rfl rfl (fun w hh => ⟨(GRule.rdmk (Rd.mk_int _ _ _) (Rd.mk_int _ _ _) (Rd.mk_int _ _ _)), trivial⟩)) (fun _ hk => nomatch hk) (fun b108 => ?_)
                    refine JD_bnd fun z109 hz110 => ?_
                    refine JD_one (i := 13) (by kernel_rfl) ?_
                    refine JO_st rfl (wants_none rfl) rfl (st_append 4 Try.underlying26 ti_97 zi_97 rfl bi_97 rfl rfl rfl rfl (fun w hh => hh.src_ow 0 rfl) hz110) (sub_ow 0 rfl) (fun v111 => ?_)
                    refine JD_take (i := 14) hp105 rfl (by kernel_rfl) (by kernel_rfl) (by kernel_rfl) (wants_none rfl) rfl (ex_nilCheck rfl) ?_
                    refine JD_take (i := 15) hp105 rfl (by kernel_rfl) (by kernel_rfl) (by kernel_rfl) (wants_none rfl) rfl (ex_fieldAddr fi_55_4 rfl rfl) ?_
                    refine JD_take (i := 16) hp105 rfl (by kernel_rfl) (by kernel_rfl) (by kernel_rfl) (wants_none rfl) rfl (ex_fieldAddr fi_28_2 rfl rfl) ?_
                    refine JD_one (i := 17) (by kernel_rfl) ?_
                    refine JO_sk rfl (wants_none rfl) (sk_store_bx' 5 ti_26 rfl rfl (fun w hh => (hh.cv_ow 4 rfl)) rfl rfl rfl rfl) (sub_bx 1 rfl) ?_
                    refine JD_done (by kernel_rfl) ?_
                    refine N_block ?_
                    refine N_then ?_
                    refine J_region ?_
                    refine JL_q (wants_none rfl) rfl (ex_move rfl) ?_
                    refine JL_q (wants_none rfl) rfl (ex_add rfl rfl) ?_
                    refine JL_q (wants_none rfl) rfl (ex_assign rfl) ?_
                    refine JL_nil ?_
                    exact N_next' (g92_0, g92_1, v111) ⟨rfl, rfl, rfl, rfl, trivial⟩ [1, 2, 3, 4, 5, 8, 9, 10, 11] rfl rfl
                  · refine JO_st rfl (wants_none rfl) rfl (st_buildSlice (vs := [.agg #[.int .i64 r31.write, .int .i64 r31.move, .int .i64 s91.2]]) ([(⟨r31.write, r31.move, s91.2⟩ : GRule)] : List GRule) Try.underlying26 ti_97 zi_97 rfl rfl rfl (fun w hh => ⟨(GRule.rdmk (Rd.mk_int _ _ _) (Rd.mk_int _ _ _) (Rd.mk_int _ _ _)), trivial⟩)) (fun _ hk => nomatch hk) (fun b112 => ?_)
                    refine JD_one (i := 5) (by kernel_rfl) ?_
                    refine JO_q rfl (wants_none rfl) rfl (ex_load_bx 5 ti_26 rfl rfl rfl) ?_
                    refine JD_bnd fun z113 hz114 => ?_
                    refine JD_one (i := 13) (by kernel_rfl) ?_
                    refine JO_st rfl (wants_none rfl) rfl (st_append 4 Try.underlying26 ti_97 zi_97 rfl bi_97 rfl rfl rfl rfl (fun w hh => hh.src_ow 0 rfl) hz114) (sub_ow 0 rfl) (fun v115 => ?_)
                    refine JD_take (i := 14) hp105 rfl (by kernel_rfl) (by kernel_rfl) (by kernel_rfl) (wants_none rfl) rfl (ex_nilCheck rfl) ?_
                    refine JD_take (i := 15) hp105 rfl (by kernel_rfl) (by kernel_rfl) (by kernel_rfl) (wants_none rfl) rfl (ex_fieldAddr fi_55_4 rfl rfl) ?_
                    refine JD_take (i := 16) hp105 rfl (by kernel_rfl) (by kernel_rfl) (by kernel_rfl) (wants_none rfl) rfl (ex_fieldAddr fi_28_2 rfl rfl) ?_
                    refine JD_one (i := 17) (by kernel_rfl) ?_
                    refine JO_sk rfl (wants_none rfl) (sk_store_bx' 5 ti_26 rfl rfl (fun w hh => (hh.cv_ow 4 rfl)) rfl rfl rfl rfl) (sub_bx 1 rfl) ?_
                    refine JD_done (by kernel_rfl) ?_
                    refine N_block ?_
                    refine N_then ?_
                    refine J_region ?_
                    refine JL_q (wants_none rfl) rfl (ex_move rfl) ?_
                    refine JL_q (wants_none rfl) rfl (ex_add rfl rfl) ?_
                    refine JL_q (wants_none rfl) rfl (ex_assign rfl) ?_
                    refine JL_nil ?_
                    exact N_next' (g92_0, g92_1, v115) ⟨rfl, rfl, rfl, rfl, trivial⟩ [1, 2, 3, 4, 5, 8, 9, 10, 11] rfl rfl
          · refine J_exit ?_
            refine N_then_exit ?_
            exact N_break' (g22_0, g22_1, g22_2) ⟨rfl, rfl, rfl, rfl, trivial⟩ [0, 1, 2, 3, 4, 5, 6, 7, 8] rfl rfl
        · obtain ⟨g22_0, g22_1, g22_2⟩ := g22
          refine N_block ?_
          refine N_then ?_
          refine J_region ?_
          refine JL_q (wants_none rfl) rfl (ex_move rfl) ?_
          refine JL_q (wants_none rfl) rfl (ex_add rfl rfl) ?_
          refine JL_q (wants_none rfl) rfl (ex_assign rfl) ?_
          refine JL_nil ?_
          exact N_next' (g22_0, g22_1, g22_2) ⟨rfl, rfl, rfl, trivial⟩ [0, 1, 2, 3, 4, 5, 6, 7, 8] rfl rfl
      · refine J_exit ?_
        refine N_then_exit ?_
        exact N_break' (g19_0, g19_1, g19_2) ⟨rfl, rfl, rfl, trivial⟩ [0, 1, 2, 3, 4, 5, 6, 7, 8] rfl rfl
    · obtain ⟨g19_0, g19_1, g19_2⟩ := g19
      refine N_then ?_
      refine J_seq ?_
      refine J_region ?_
      refine JL_q (wants_none rfl) rfl (ex_move rfl) ?_
      refine JL_q (wants_none rfl) rfl (ex_move rfl) ?_
      refine JL_q (wants_none rfl) rfl (ex_nilCheck rfl) ?_
      refine JL_q (wants_none rfl) rfl (ex_fieldAddr fi_55_3 rfl rfl) ?_
      refine JL_q (wants_none rfl) rfl (ex_load_bx 4 ti_53 rfl rfl rfl) ?_
      refine JL_q (wants_none rfl) rfl (ex_od 2 rfl (ex_len_ow 2 Try.underlying53 rfl rfl)) ?_
      refine JL_q (wants_none rfl) rfl (ex_nilCheck rfl) ?_
      refine JL_q (wants_none rfl) rfl (ex_fieldAddr fi_55_4 rfl rfl) ?_
      refine JL_q (wants_none rfl) rfl (ex_fieldAddr fi_28_1 rfl rfl) ?_
      refine JL_sk (wants_none rfl) (sk_store_bx' 4 ti_2 rfl rfl (fun w hh => cv_int) rfl rfl rfl rfl) ?_
      refine JL_nil ?_
      refine N_then ?_
      refine J_seq ?_
      refine J_region ?_
      refine JL_q (wants_none rfl) rfl (ex_assign rfl) ?_
      refine JL_nil ?_
      refine N_then ?_
      refine J_ret ?_
      refine N_inl1 hK15 rfl (rv_tmp rfl) ?_
      refine JL_q (wants_none rfl) rfl (ex_assign rfl) ?_
      refine JL_nil ?_
      refine N_then ?_
      refine J_seq ?_
      refine J_region ?_
      refine JL_q (wants_none rfl) rfl (ex_move rfl) ?_
      refine JL_q (wants_none rfl) rfl (ex_move rfl) ?_
      refine JL_q (wants_none rfl) rfl (ex_assign rfl) ?_
      refine JL_q (wants_none rfl) rfl (ex_assign rfl) ?_
      refine JL_nil ?_
      refine N_then ?_
      refine J_ret ?_
      refine N_inl2 hK12 rfl (rv_tmp rfl) (rv_tmp rfl) ?_
      refine JL_q (wants_none rfl) rfl (ex_move rfl) ?_
      refine JL_q (wants_none rfl) rfl (ex_extract rfl rfl) ?_
      refine JL_q (wants_none rfl) rfl (ex_extract rfl rfl) ?_
      refine JL_q (wants_none rfl) rfl (ex_assign rfl) ?_
      refine JL_q (wants_none rfl) rfl (ex_assign rfl) ?_
      refine JL_nil ?_
      refine N_then ?_
      refine J_seq ?_
      refine J_seq ?_
      refine J_region ?_
      refine JL_q (wants_none rfl) rfl (ex_move rfl) ?_
      refine JL_q (wants_none rfl) rfl (ex_not rfl) ?_
      refine JL_nil ?_
      refine N_then ?_
      refine J_if_false rfl (by rw [show (true) = true from rfl]; rfl) ?_
      refine J_skip ?_
      refine N_then ?_
      refine J_seq ?_
      refine J_region ?_
      refine JL_q (wants_none rfl) rfl (ex_move rfl) ?_
      refine JL_q (wants_none rfl) rfl (ex_fieldAddr fi_39_0 rfl rfl) ?_
      refine JL_q (wants_none rfl) rfl (ex_load_bx 7 ti_2 rfl rfl rfl) ?_
      refine JL_st (wants_none rfl) rfl (st_buildSlice (vs := [.int .i64 0, .int .i64 p1.State, .int .i64 0, .int .i64 0]) ([0, p1.State, 0, 0] : List Int) Try.underlying35 ti_2 zi_2 rfl rfl rfl (fun w hh => ⟨(Rd.mk_int _ _ _), (Rd.mk_int _ _ _), (Rd.mk_int _ _ _), (Rd.mk_int _ _ _), trivial⟩)) (fun b116 => ?_)
      refine JL_inline (wants_none rfl) rfl Try.call43 rfl Try.func43 rfl Try.ntmps43 rfl rfl (fun K_ hK117 => ?_)
      refine J_seq ?_
      refine J_region ?_
      refine JL_q (wants_none rfl) rfl (ex_assign rfl) ?_
      refine JL_nil ?_
      refine N_then ?_
      refine J_seq ?_
      refine J_seq ?_
      refine J_region ?_
      refine JL_q (wants_none rfl) rfl (ex_assign rfl) ?_
      refine JL_nil ?_
      refine N_then ?_
      refine J_loop' (S := Int) (G := Unit) (F_spec_BinaryConfig_L4 p0 p1 s18) (fun s118 _ => [(0, .pointer (some ⟨b13, 0, none⟩)), (1, (.slice (some ⟨b116, 0, none⟩) 4 4)), (5, .int .i64 s118)]) (fun s118 _ => [.rd v0_0 p0.Rules, .bx b1 28 [.int .i64 p0.Symbols, .int .i64 p0.States, v0_0], .od 35 g19_0 s18.1 g19_1, .ow 97 g19_2 s18.2.1, .bx b13 55 [.pointer (some ⟨b1, 0, none⟩), .pointer none, .int .i64 0, g19_0, .int .i64 2, .int .i64 (s18.1.length : Int), g19_2], .ow 2 (.slice (some ⟨b116, 0, none⟩) 4 4) ([0, p1.State, 0, 0] : List Int), .rd v1_0 p1.Left, .rd v1_1 p1.Right, .bx b2 39 [.int .i64 p1.State, v1_0, v1_1], .bx b3 39 [.int .i64 0, .slice none 0 0, .slice none 0 0]]) 0 () ⟨rfl, rfl, rfl, trivial⟩ [1, 2, 3, 4, 5, 0, 6, 7, 8, 9] rfl rfl (fun s118 g119 => ?_) (fun s118 g119 => ?_)
      · unfold F_spec_BinaryConfig_L4
        refine J_seq ?_
        refine J_seq ?_
        refine J_region ?_
        refine JL_q (wants_none rfl) rfl (ex_move rfl) ?_
        refine JL_q (wants_none rfl) rfl (ex_move rfl) ?_
        refine JL_q (wants_none rfl) rfl (ex_nilCheck rfl) ?_
        refine JL_q (wants_none rfl) rfl (ex_fieldAddr fi_55_3 rfl rfl) ?_
        refine JL_q (wants_none rfl) rfl (ex_load_bx 4 ti_53 rfl rfl rfl) ?_
        refine JL_q (wants_none rfl) rfl (ex_od 2 rfl (ex_len_ow 2 Try.underlying53 rfl rfl)) ?_
        refine JL_q (wants_none rfl) rfl (ex_lss rfl rfl) ?_
        refine JL_nil ?_
        refine N_then ?_
        refine J_if rfl (fun h120 => ?_) (fun h120 => ?_)
        · refine J_skip ?_
          refine N_then ?_
          refine J_seq ?_
          refine J_block ?_
          refine J_seq ?_
          refine J_region ?_
          refine JL_q (wants_none rfl) rfl (ex_move rfl) ?_
          refine JL_q (wants_none rfl) rfl (ex_nilCheck rfl) ?_
          refine JL_q (wants_none rfl) rfl (ex_fieldAddr fi_55_3 rfl rfl) ?_
          refine JL_q (wants_none rfl) rfl (ex_load_bx 4 ti_53 rfl rfl rfl) ?_
          refine JL_q (wants_none rfl) rfl (ex_move rfl) ?_
          refine JL_bnd fun y121 hy122 => ?_
          refine JL_od_open (v := g19_0) 2 rfl hy122 ?_; rintro b123 cap124 rfl
          refine JL_q (wants_none rfl) rfl (ex_od 2 rfl (ex_index_ow 2 Try.underlying53 ti_35 rfl rfl rfl hy122)) ?_
          refine JL_st (wants_none rfl) rfl (st_od 2 rfl (st_load_ow_o 2 (opens_sl _) ti_35 rfl rfl hy122) (fun _ => rfl)) (fun v125 => ?_)
          refine JL_q (wants_none rfl) rfl (ex_move rfl) ?_
          refine JL_bnd fun r126 hr127 => ?_
          refine JL_call (wants_none rfl) rfl Try.call83 rfl (Ca_of0 fun w hh => c_spec_l00Same _ w (fun _ hk => hk.elim) _ _ (hh.rd0 0 rfl) _ _ (hh.ow0 6 rfl) _ hr127) (fun _ => ?_)
          refine JL_nil ?_
          refine N_then ?_
          refine J_if rfl (fun h128 => ?_) (fun h128 => ?_)
          · refine J_seq ?_
            refine J_region ?_
            refine JL_q (wants_none rfl) rfl (ex_move rfl) ?_
            refine JL_q (wants_none rfl) rfl (ex_assign rfl) ?_
            refine JL_nil ?_
            refine N_then ?_
            refine J_ret ?_
            refine N_block_ret ?_
            refine N_then_ret ?_
            refine N_round_reti ?_
            refine N_then_ret ?_
            refine N_inl1 hK117 rfl (rv_tmp rfl) ?_
            refine JL_q (wants_none rfl) rfl (ex_assign rfl) ?_
            refine JL_nil ?_
            refine N_then ?_
            refine J_seq ?_
            refine J_seq ?_
            refine J_region ?_
            refine JL_q (wants_none rfl) rfl (ex_move rfl) ?_
            refine JL_q (wants_none rfl) rfl (ex_lss rfl rfl) ?_
            refine JL_nil ?_
            refine N_then ?_
            refine J_if rfl (fun h129 => ?_) (fun h129 => ?_)
            · refine J_seq ?_
              refine J_region ?_
              refine JL_q (wants_none rfl) rfl (ex_build si_39 rfl .nil (fun w hh => trivial)) ?_
              refine JL_sk (wants_none rfl) (sk_store_bx' 10 ti_39 rfl rfl (fun w hh => (cv_aggs ⟨cv_int, cv_slice, cv_slice, trivial⟩)) rfl rfl rfl rfl) ?_
              refine JL_q (wants_none rfl) rfl (ex_assign rfl) ?_
              refine JL_nil ?_
              refine N_then ?_
              refine J_ret ?_
              refine N_then_ret ?_
              refine N_ctx (fun w hh => SH.ow_nil (α := Int) 2 hh) ?_
              refine N_ctx (fun w hh => SH.ow_nil (α := Int) 2 hh) ?_
              exact N_ret2 rfl (rv_cell 12 rfl rfl ti_39 rfl) (rv_tmp rfl) (fun w hh => ⟨((.slice none 0 0 : Value), (.slice none 0 0 : Value)), rfl, hh.sel [1, 0] rfl⟩)
            · refine J_skip ?_
              refine N_then ?_
              refine J_seq ?_
              refine J_region ?_
              refine JL_q (wants_none rfl) rfl (ex_fieldAddr fi_28_0 rfl rfl) ?_
              refine JL_q (wants_none rfl) rfl (ex_load_bx 2 ti_2 rfl rfl rfl) ?_
              refine JL_bnd fun r130 hr131 => ?_
              refine JL_call (wants_none rfl) rfl Try.call53 rfl (Ca_of0 fun w hh => c_spec_l13Bits _ w (fun _ hk => hk.elim) _ _ hr131) (fun _ => ?_)
              refine JL_q (wants_none rfl) rfl (ex_assign rfl) ?_
              refine JL_nil ?_
              refine N_then ?_
              refine J_seq ?_
              refine J_draw [] (by kernel_rfl) ?_
              refine JP_take (i := 0) [0, 1, 2, 3, 4, 5, 6, 7, 8, 9, 10] [] rfl (by kernel_rfl) (by kernel_rfl) (by kernel_rfl) rfl rfl (wants_none rfl) rfl (ex_move rfl) ?_
              refine JP_take (i := 1) [0, 1, 2, 3, 4, 5, 6, 7, 8, 9, 10] [] rfl (by kernel_rfl) (by kernel_rfl) (by kernel_rfl) rfl rfl (wants_none rfl) rfl (ex_fieldAddr fi_39_1 rfl rfl) ?_
              refine JP_take (i := 2) [0, 1, 2, 3, 4, 5, 6, 7, 8, 9, 10] [] rfl (by kernel_rfl) (by kernel_rfl) (by kernel_rfl) rfl rfl (wants_none rfl) rfl (ex_load_bx 9 ti_35 rfl rfl rfl) ?_
              refine JP_take (i := 3) [0, 1, 2, 3, 4, 5, 6, 7, 8, 9, 10] [] rfl (by kernel_rfl) (by kernel_rfl) (by kernel_rfl) rfl rfl (wants_none rfl) rfl (ex_move rfl) ?_
              refine JP_take (i := 6) [0, 1, 2, 3, 4, 5, 6, 7, 8, 9, 10] [] rfl (by kernel_rfl) (by kernel_rfl) (by kernel_rfl) rfl rfl (wants_none rfl) rfl (ex_fieldAddr fi_39_2 rfl rfl) ?_
              refine JP_take (i := 7) [0, 1, 2, 3, 4, 5, 6, 7, 8, 9, 10] [] rfl (by kernel_rfl) (by kernel_rfl) (by kernel_rfl) rfl rfl (wants_none rfl) rfl (ex_load_bx 9 ti_35 rfl rfl rfl) ?_
              refine JP_take (i := 8) [0, 1, 2, 3, 4, 5, 6, 7, 8, 9, 10] [] rfl (by kernel_rfl) (by kernel_rfl) (by kernel_rfl) rfl rfl (wants_none rfl) rfl (ex_move rfl) ?_
              refine JP_go [0, 1, 2, 3, 4, 5, 6, 7, 8, 9, 10] [] rfl rfl rfl (fun w133 h1_134 hp132 => ?_)
              refine JD_bnd fun r135 hr136 => ?_
              refine JD_two (i := 4) (j := 12) (by kernel_rfl) ?_ ?_
              · refine JO_call rfl (wants_none rfl) rfl Try.call54 rfl (Ca_self (fun _ => rfl) fun w hh => c_spec_l13Codes _ w (fun _ hk => hk.elim) _ _ (hh.rd0 7 rfl) _ _ _ hr136) (fun x137 => ?_)
                refine JD_bnd fun r138 hr139 => ?_
                refine JD_two (i := 5) (j := 12) (by kernel_rfl) ?_ ?_
                · refine JO_call rfl (wants_none rfl) rfl Try.call45 rfl (Ca_self (fun _ => rfl) fun w hh => c_spec_l05Trim _ w (fun _ hk => hk.elim) _ _ (hh.ow0 0 rfl) _ hr139) (fun x140 => ?_)
                  refine JD_bnd fun r141 hr142 => ?_
                  refine JD_two (i := 9) (j := 12) (by kernel_rfl) ?_ ?_
                  · refine JO_call rfl (wants_none rfl) rfl Try.call54 rfl (Ca_self (fun _ => rfl) fun w hh => c_spec_l13Codes _ w (fun _ hk => hk.elim) _ _ (hh.rd0 10 rfl) _ _ _ hr142) (fun x143 => ?_)
                    refine JD_bnd fun r144 hr145 => ?_
                    refine JD_two (i := 10) (j := 12) (by kernel_rfl) ?_ ?_
                    · refine JO_call rfl (wants_none rfl) rfl Try.call45 rfl (Ca_self (fun _ => rfl) fun w hh => c_spec_l05Trim _ w (fun _ hk => hk.elim) _ _ (hh.ow0 0 rfl) _ hr145) (fun x146 => ?_)
                      refine JD_two (i := 11) (j := 12) (by kernel_rfl) ?_ ?_
                      · refine JO_q rfl (wants_none rfl) rfl (ex_build si_39 rfl (.cons fi_39_0 rfl rfl (.cons fi_39_1 rfl rfl (.cons fi_39_2 rfl rfl .nil))) (fun w hh => ⟨cv_int, (hh.cv_ow 2 rfl), (hh.cv_ow 0 rfl), trivial⟩)) ?_
                        refine JD_one (i := 12) (by kernel_rfl) ?_
                        refine JO_st rfl (wants_none rfl) rfl (st_alloc zi_39 rfl) (fun _ hk => nomatch hk) (fun b147 => ?_)
                        refine JD_one (i := 13) (by kernel_rfl) ?_
                        refine JO_sk2 0 [] [0, 1, 2, 3, 4, 5, 6, 7, 8, 9, 10] [5, 6, 7, 8, 9, 10, 11, 12, 13, 14, 15] rfl rfl rfl rfl rfl rfl (wants_none rfl) (sk_store_bx' 0 ti_39 rfl rfl (fun w hh => (cv_aggs ⟨cv_int, (hh.cv_ow 3 rfl), (hh.cv_ow 1 rfl), trivial⟩)) rfl rfl rfl rfl) (fun _ hk => hk) ?_
                        refine JD_done (by kernel_rfl) ?_
                        refine N_then ?_
                        refine J_seq ?_
                        refine J_seq ?_
                        refine J_region ?_
                        refine JL_q (wants_none rfl) rfl (ex_move rfl) ?_
                        refine JL_q (wants_none rfl) rfl (ex_nilCheck rfl) ?_
                        refine JL_q (wants_none rfl) rfl (ex_fieldAddr fi_55_4 rfl rfl) ?_
                        refine JL_bnd fun r148 hr149 => ?_
                        refine JL_call (wants_none rfl) rfl Try.call42 rfl (Ca_of0 fun w hh => c_spec_l05Good _ w (fun _ hk => hk.elim) _ _ (hh.bx_paN (off := 0 + 4) (cs1 := [.int .i64 2, .int .i64 (s18.1.length : Int), g19_2]) 10 rfl rfl (GMachine.rdmk (Rd.mk_int _ _ _) (Rd.mk_int _ _ _) (hh.ow0 9 rfl)) rfl) _ _ (hh.bx_pa 0 rfl (GConfig.rdmk (Rd.mk_int _ _ _) (hh.ow0 3 rfl) (hh.ow0 1 rfl)) rfl) _ hr149) (fun _ => ?_)
                        refine JL_q (wants_none rfl) rfl (ex_not rfl) ?_
                        refine JL_nil ?_
                        refine N_then ?_
                        refine J_if rfl (fun h150 => ?_) (fun h150 => ?_)
                        · refine J_seq ?_
                          refine J_region ?_
                          refine JL_q (wants_none rfl) rfl (ex_build si_39 rfl .nil (fun w hh => trivial)) ?_
                          refine JL_sk (wants_none rfl) (sk_store_bx' 15 ti_39 rfl rfl (fun w hh => (cv_aggs ⟨cv_int, cv_slice, cv_slice, trivial⟩)) rfl rfl rfl rfl) ?_
                          refine JL_q (wants_none rfl) rfl (ex_assign rfl) ?_
                          refine JL_nil ?_
                          refine N_then ?_
                          refine J_ret ?_
                          refine N_then_ret ?_
                          refine N_ctx (fun w hh => SH.ow_nil (α := Int) 2 hh) ?_
                          refine N_ctx (fun w hh => SH.ow_nil (α := Int) 2 hh) ?_
                          exact N_ret2 rfl (rv_cell 17 rfl rfl ti_39 rfl) (rv_tmp rfl) (fun w hh => ⟨((.slice none 0 0 : Value), (.slice none 0 0 : Value)), rfl, hh.sel [1, 0] rfl⟩)
                        · refine J_skip ?_
                          refine N_then ?_
                          refine J_seq ?_
                          refine J_region ?_
                          refine JL_q (wants_none rfl) rfl (ex_load_bx_agg 0 ti_39 rfl rfl rfl rfl) ?_
                          refine JL_sk (wants_none rfl) (sk_store_bx' 15 ti_39 rfl rfl (fun w hh => (cv_aggs ⟨cv_int, (hh.cv_ow 3 rfl), (hh.cv_ow 1 rfl), trivial⟩)) rfl rfl rfl rfl) ?_
                          refine JL_q (wants_none rfl) rfl (ex_assign rfl) ?_
                          refine JL_nil ?_
                          refine N_then ?_
                          refine J_ret ?_
                          exact N_ret2 rfl (rv_cell 15 rfl rfl ti_39 rfl) (rv_tmp rfl) (fun w hh => ⟨(x140, x146), rfl, hh.sel [3, 1] rfl⟩)
                      · refine JO_st rfl (wants_none rfl) rfl (st_alloc zi_39 rfl) (fun _ hk => nomatch hk) (fun b151 => ?_)
                        refine JD_one (i := 11) (by kernel_rfl) ?_
                        refine JO_q rfl (wants_none rfl) rfl (ex_build si_39 rfl (.cons fi_39_0 rfl rfl (.cons fi_39_1 rfl rfl (.cons fi_39_2 rfl rfl .nil))) (fun w hh => ⟨cv_int, (hh.cv_ow 3 rfl), (hh.cv_ow 1 rfl), trivial⟩)) ?_
                        refine JD_one (i := 13) (by kernel_rfl) ?_
                        refine JO_sk2 0 [] [0, 1, 2, 3, 4, 5, 6, 7, 8, 9, 10] [5, 6, 7, 8, 9, 10, 11, 12, 13, 14, 15] rfl rfl rfl rfl rfl rfl (wants_none rfl) (sk_store_bx' 0 ti_39 rfl rfl (fun w hh => (cv_aggs ⟨cv_int, (hh.cv_ow 3 rfl), (hh.cv_ow 1 rfl), trivial⟩)) rfl rfl rfl rfl) (fun _ hk => hk) ?_
                        refine JD_done (by kernel_rfl) ?_
                        refine N_then ?_
                        refine J_seq ?_
                        refine J_seq ?_
                        refine J_region ?_
                        refine JL_q (wants_none rfl) rfl (ex_move rfl) ?_
                        refine JL_q (wants_none rfl) rfl (ex_nilCheck rfl) ?_
                        refine JL_q (wants_none rfl) rfl (ex_fieldAddr fi_55_4 rfl rfl) ?_
                        refine JL_bnd fun r152 hr153 => ?_
                        refine JL_call (wants_none rfl) rfl Try.call42 rfl (Ca_of0 fun w hh => c_spec_l05Good _ w (fun _ hk => hk.elim) _ _ (hh.bx_paN (off := 0 + 4) (cs1 := [.int .i64 2, .int .i64 (s18.1.length : Int), g19_2]) 10 rfl rfl (GMachine.rdmk (Rd.mk_int _ _ _) (Rd.mk_int _ _ _) (hh.ow0 9 rfl)) rfl) _ _ (hh.bx_pa 0 rfl (GConfig.rdmk (Rd.mk_int _ _ _) (hh.ow0 3 rfl) (hh.ow0 1 rfl)) rfl) _ hr153) (fun _ => ?_)
                        refine JL_q (wants_none rfl) rfl (ex_not rfl) ?_
                        refine JL_nil ?_
                        refine N_then ?_
                        refine J_if rfl (fun h154 => ?_) (fun h154 => ?_)
                        · refine J_seq ?_
                          refine J_region ?_
                          refine JL_q (wants_none rfl) rfl (ex_build si_39 rfl .nil (fun w hh => trivial)) ?_
                          refine JL_sk (wants_none rfl) (sk_store_bx' 15 ti_39 rfl rfl (fun w hh => (cv_aggs ⟨cv_int, cv_slice, cv_slice, trivial⟩)) rfl rfl rfl rfl) ?_
                          refine JL_q (wants_none rfl) rfl (ex_assign rfl) ?_
                          refine JL_nil ?_
                          refine N_then ?_
                          refine J_ret ?_
                          refine N_then_ret ?_
                          refine N_ctx (fun w hh => SH.ow_nil (α := Int) 2 hh) ?_
                          refine N_ctx (fun w hh => SH.ow_nil (α := Int) 2 hh) ?_
                          exact N_ret2 rfl (rv_cell 17 rfl rfl ti_39 rfl) (rv_tmp rfl) (fun w hh => ⟨((.slice none 0 0 : Value), (.slice none 0 0 : Value)), rfl, hh.sel [1, 0] rfl⟩)
                        · refine J_skip ?_
                          refine N_then ?_
                          refine J_seq ?_
                          refine J_region ?_
                          refine JL_q (wants_none rfl) rfl (ex_load_bx_agg 0 ti_39 rfl rfl rfl rfl) ?_
                          refine JL_sk (wants_none rfl) (sk_store_bx' 15 ti_39 rfl rfl (fun w hh => (cv_aggs ⟨cv_int, (hh.cv_ow 3 rfl), (hh.cv_ow 1 rfl), trivial⟩)) rfl rfl rfl rfl) ?_
                          refine JL_q (wants_none rfl) rfl (ex_assign rfl) ?_
                          refine JL_nil ?_
                          refine N_then ?_
                          refine J_ret ?_
                          exact N_ret2 rfl (rv_cell 15 rfl rfl ti_39 rfl) (rv_tmp rfl) (fun w hh => ⟨(x140, x146), rfl, hh.sel [3, 1] rfl⟩)
                    · refine JO_st rfl (wants_none rfl) rfl (st_alloc zi_39 rfl) (fun _ hk => nomatch hk) (fun b155 => ?_)
                      refine JD_one (i := 10) (by kernel_rfl) ?_
                      refine JO_call rfl (wants_none rfl) rfl Try.call45 rfl (Ca_self (fun _ => rfl) fun w hh => c_spec_l05Trim _ w (fun _ hk => hk.elim) _ _ (hh.ow0 1 rfl) _ hr145) (fun x156 => ?_)
                      refine JD_one (i := 11) (by kernel_rfl) ?_
                      refine JO_q rfl (wants_none rfl) rfl (ex_build si_39 rfl (.cons fi_39_0 rfl rfl (.cons fi_39_1 rfl rfl (.cons fi_39_2 rfl rfl .nil))) (fun w hh => ⟨cv_int, (hh.cv_ow 3 rfl), (hh.cv_ow 0 rfl), trivial⟩)) ?_
                      refine JD_one (i := 13) (by kernel_rfl) ?_
                      refine JO_sk2 1 [] [0, 1, 2, 3, 4, 5, 6, 7, 8, 9, 10] [5, 6, 7, 8, 9, 10, 11, 12, 13, 14, 15] rfl rfl rfl rfl rfl rfl (wants_none rfl) (sk_store_bx' 1 ti_39 rfl rfl (fun w hh => (cv_aggs ⟨cv_int, (hh.cv_ow 3 rfl), (hh.cv_ow 0 rfl), trivial⟩)) rfl rfl rfl rfl) (fun _ hk => hk) ?_
                      refine JD_done (by kernel_rfl) ?_
                      refine N_then ?_
                      refine J_seq ?_
                      refine J_seq ?_
                      refine J_region ?_
                      refine JL_q (wants_none rfl) rfl (ex_move rfl) ?_
                      refine JL_q (wants_none rfl) rfl (ex_nilCheck rfl) ?_
                      refine JL_q (wants_none rfl) rfl (ex_fieldAddr fi_55_4 rfl rfl) ?_
                      refine JL_bnd fun r157 hr158 => ?_
                      refine JL_call (wants_none rfl) rfl Try.call42 rfl (Ca_of0 fun w hh => c_spec_l05Good _ w (fun _ hk => hk.elim) _ _ (hh.bx_paN (off := 0 + 4) (cs1 := [.int .i64 2, .int .i64 (s18.1.length : Int), g19_2]) 10 rfl rfl (GMachine.rdmk (Rd.mk_int _ _ _) (Rd.mk_int _ _ _) (hh.ow0 9 rfl)) rfl) _ _ (hh.bx_pa 1 rfl (GConfig.rdmk (Rd.mk_int _ _ _) (hh.ow0 3 rfl) (hh.ow0 0 rfl)) rfl) _ hr158) (fun _ => ?_)
                      refine JL_q (wants_none rfl) rfl (ex_not rfl) ?_
                      refine JL_nil ?_
                      refine N_then ?_
                      refine J_if rfl (fun h159 => ?_) (fun h159 => ?_)
                      · refine J_seq ?_
                        refine J_region ?_
                        refine JL_q (wants_none rfl) rfl (ex_build si_39 rfl .nil (fun w hh => trivial)) ?_
                        refine JL_sk (wants_none rfl) (sk_store_bx' 15 ti_39 rfl rfl (fun w hh => (cv_aggs ⟨cv_int, cv_slice, cv_slice, trivial⟩)) rfl rfl rfl rfl) ?_
                        refine JL_q (wants_none rfl) rfl (ex_assign rfl) ?_
                        refine JL_nil ?_
                        refine N_then ?_
                        refine J_ret ?_
                        refine N_then_ret ?_
                        refine N_ctx (fun w hh => SH.ow_nil (α := Int) 2 hh) ?_
                        refine N_ctx (fun w hh => SH.ow_nil (α := Int) 2 hh) ?_
                        exact N_ret2 rfl (rv_cell 17 rfl rfl ti_39 rfl) (rv_tmp rfl) (fun w hh => ⟨((.slice none 0 0 : Value), (.slice none 0 0 : Value)), rfl, hh.sel [1, 0] rfl⟩)
                      · refine J_skip ?_
                        refine N_then ?_
                        refine J_seq ?_
                        refine J_region ?_
                        refine JL_q (wants_none rfl) rfl (ex_load_bx_agg 1 ti_39 rfl rfl rfl rfl) ?_
                        refine JL_sk (wants_none rfl) (sk_store_bx' 15 ti_39 rfl rfl (fun w hh => (cv_aggs ⟨cv_int, (hh.cv_ow 3 rfl), (hh.cv_ow 0 rfl), trivial⟩)) rfl rfl rfl rfl) ?_
                        refine JL_q (wants_none rfl) rfl (ex_assign rfl) ?_
                        refine JL_nil ?_
                        refine N_then ?_
                        refine J_ret ?_
                        exact N_ret2 rfl (rv_cell 15 rfl rfl ti_39 rfl) (rv_tmp rfl) (fun w hh => ⟨(x140, x156), rfl, hh.sel [3, 0] rfl⟩)
                  · refine JO_st rfl (wants_none rfl) rfl (st_alloc zi_39 rfl) (fun _ hk => nomatch hk) (fun b160 => ?_)
                    refine JD_one (i := 9) (by kernel_rfl) ?_
                    refine JO_call rfl (wants_none rfl) rfl Try.call54 rfl (Ca_self (fun _ => rfl) fun w hh => c_spec_l13Codes _ w (fun _ hk => hk.elim) _ _ (hh.rd0 11 rfl) _ _ _ hr142) (fun x161 => ?_)
                    refine JD_bnd fun r162 hr163 => ?_
                    refine JD_one (i := 10) (by kernel_rfl) ?_
                    refine JO_call rfl (wants_none rfl) rfl Try.call45 rfl (Ca_self (fun _ => rfl) fun w hh => c_spec_l05Trim _ w (fun _ hk => hk.elim) _ _ (hh.ow0 0 rfl) _ hr163) (fun x164 => ?_)
                    refine JD_one (i := 11) (by kernel_rfl) ?_
                    refine JO_q rfl (wants_none rfl) rfl (ex_build si_39 rfl (.cons fi_39_0 rfl rfl (.cons fi_39_1 rfl rfl (.cons fi_39_2 rfl rfl .nil))) (fun w hh => ⟨cv_int, (hh.cv_ow 3 rfl), (hh.cv_ow 0 rfl), trivial⟩)) ?_
                    refine JD_one (i := 13) (by kernel_rfl) ?_
                    refine JO_sk2 2 [] [0, 1, 2, 3, 4, 5, 6, 7, 8, 9, 10] [5, 6, 7, 8, 9, 10, 11, 12, 13, 14, 15] rfl rfl rfl rfl rfl rfl (wants_none rfl) (sk_store_bx' 2 ti_39 rfl rfl (fun w hh => (cv_aggs ⟨cv_int, (hh.cv_ow 3 rfl), (hh.cv_ow 0 rfl), trivial⟩)) rfl rfl rfl rfl) (fun _ hk => hk) ?_
                    refine JD_done (by kernel_rfl) ?_
                    refine N_then ?_
                    refine J_seq ?_
                    refine J_seq ?_
                    refine J_region ?_
                    refine JL_q (wants_none rfl) rfl (ex_move rfl) ?_
                    refine JL_q (wants_none rfl) rfl (ex_nilCheck rfl) ?_
                    refine JL_q (wants_none rfl) rfl (ex_fieldAddr fi_55_4 rfl rfl) ?_
                    refine JL_bnd fun r165 hr166 => ?_
                    refine JL_call (wants_none rfl) rfl Try.call42 rfl (Ca_of0 fun w hh => c_spec_l05Good _ w (fun _ hk => hk.elim) _ _ (hh.bx_paN (off := 0 + 4) (cs1 := [.int .i64 2, .int .i64 (s18.1.length : Int), g19_2]) 10 rfl rfl (GMachine.rdmk (Rd.mk_int _ _ _) (Rd.mk_int _ _ _) (hh.ow0 9 rfl)) rfl) _ _ (hh.bx_pa 2 rfl (GConfig.rdmk (Rd.mk_int _ _ _) (hh.ow0 3 rfl) (hh.ow0 0 rfl)) rfl) _ hr166) (fun _ => ?_)
                    refine JL_q (wants_none rfl) rfl (ex_not rfl) ?_
                    refine JL_nil ?_
                    refine N_then ?_
                    refine J_if rfl (fun h167 => ?_) (fun h167 => ?_)
                    · refine J_seq ?_
                      refine J_region ?_
                      refine JL_q (wants_none rfl) rfl (ex_build si_39 rfl .nil (fun w hh => trivial)) ?_
                      refine JL_sk (wants_none rfl) (sk_store_bx' 15 ti_39 rfl rfl (fun w hh => (cv_aggs ⟨cv_int, cv_slice, cv_slice, trivial⟩)) rfl rfl rfl rfl) ?_
                      refine JL_q (wants_none rfl) rfl (ex_assign rfl) ?_
                      refine JL_nil ?_
                      refine N_then ?_
                      refine J_ret ?_
                      refine N_then_ret ?_
                      refine N_ctx (fun w hh => SH.ow_nil (α := Int) 2 hh) ?_
                      refine N_ctx (fun w hh => SH.ow_nil (α := Int) 2 hh) ?_
                      exact N_ret2 rfl (rv_cell 17 rfl rfl ti_39 rfl) (rv_tmp rfl) (fun w hh => ⟨((.slice none 0 0 : Value), (.slice none 0 0 : Value)), rfl, hh.sel [1, 0] rfl⟩)
                    · refine J_skip ?_
                      refine N_then ?_
                      refine J_seq ?_
                      refine J_region ?_
                      refine JL_q (wants_none rfl) rfl (ex_load_bx_agg 2 ti_39 rfl rfl rfl rfl) ?_
                      refine JL_sk (wants_none rfl) (sk_store_bx' 15 ti_39 rfl rfl (fun w hh => (cv_aggs ⟨cv_int, (hh.cv_ow 3 rfl), (hh.cv_ow 0 rfl), trivial⟩)) rfl rfl rfl rfl) ?_
                      refine JL_q (wants_none rfl) rfl (ex_assign rfl) ?_
                      refine JL_nil ?_
                      refine N_then ?_
                      refine J_ret ?_
                      exact N_ret2 rfl (rv_cell 15 rfl rfl ti_39 rfl) (rv_tmp rfl) (fun w hh => ⟨(x140, x164), rfl, hh.sel [3, 0] rfl⟩)
                · refine JO_st rfl (wants_none rfl) rfl (st_alloc zi_39 rfl) (fun _ hk => nomatch hk) (fun b168 => ?_)
                  refine JD_one (i := 5) (by kernel_rfl) ?_
                  refine JO_call rfl (wants_none rfl) rfl Try.call45 rfl (Ca_self (fun _ => rfl) fun w hh => c_spec_l05Trim _ w (fun _ hk => hk.elim) _ _ (hh.ow0 1 rfl) _ hr139) (fun x169 => ?_)
                  refine JD_bnd fun r170 hr171 => ?_
                  refine JD_one (i := 9) (by kernel_rfl) ?_
                  refine JO_call rfl (wants_none rfl) rfl Try.call54 rfl (Ca_self (fun _ => rfl) fun w hh => c_spec_l13Codes _ w (fun _ hk => hk.elim) _ _ (hh.rd0 11 rfl) _ _ _ hr171) (fun x172 => ?_)
                  refine JD_bnd fun r173 hr174 => ?_
                  refine JD_one (i := 10) (by kernel_rfl) ?_
                  refine JO_call rfl (wants_none rfl) rfl Try.call45 rfl (Ca_self (fun _ => rfl) fun w hh => c_spec_l05Trim _ w (fun _ hk => hk.elim) _ _ (hh.ow0 0 rfl) _ hr174) (fun x175 => ?_)
                  refine JD_one (i := 11) (by kernel_rfl) ?_
                  refine JO_q rfl (wants_none rfl) rfl (ex_build si_39 rfl (.cons fi_39_0 rfl rfl (.cons fi_39_1 rfl rfl (.cons fi_39_2 rfl rfl .nil))) (fun w hh => ⟨cv_int, (hh.cv_ow 2 rfl), (hh.cv_ow 0 rfl), trivial⟩)) ?_
                  refine JD_one (i := 13) (by kernel_rfl) ?_
                  refine JO_sk2 3 [] [0, 1, 2, 3, 4, 5, 6, 7, 8, 9, 10] [5, 6, 7, 8, 9, 10, 11, 12, 13, 14, 15] rfl rfl rfl rfl rfl rfl (wants_none rfl) (sk_store_bx' 3 ti_39 rfl rfl (fun w hh => (cv_aggs ⟨cv_int, (hh.cv_ow 2 rfl), (hh.cv_ow 0 rfl), trivial⟩)) rfl rfl rfl rfl) (fun _ hk => hk) ?_
                  refine JD_done (by kernel_rfl) ?_
                  refine N_then ?_
                  refine J_seq ?_
                  refine J_seq ?_
                  refine J_region ?_
                  refine JL_q (wants_none rfl) rfl (ex_move rfl) ?_
                  refine JL_q (wants_none rfl) rfl (ex_nilCheck rfl) ?_
                  refine JL_q (wants_none rfl) rfl (ex_fieldAddr fi_55_4 rfl rfl) ?_
                  refine JL_bnd fun r176 hr177 => ?_
                  refine JL_call (wants_none rfl) rfl Try.call42 rfl (Ca_of0 fun w hh => c_spec_l05Good _ w (fun _ hk => hk.elim) _ _ (hh.bx_paN (off := 0 + 4) (cs1 := [.int .i64 2, .int .i64 (s18.1.length : Int), g19_2]) 10 rfl rfl (GMachine.rdmk (Rd.mk_int _ _ _) (Rd.mk_int _ _ _) (hh.ow0 9 rfl)) rfl) _ _ (hh.bx_pa 3 rfl (GConfig.rdmk (Rd.mk_int _ _ _) (hh.ow0 2 rfl) (hh.ow0 0 rfl)) rfl) _ hr177) (fun _ => ?_)
                  refine JL_q (wants_none rfl) rfl (ex_not rfl) ?_
                  refine JL_nil ?_
                  refine N_then ?_
                  refine J_if rfl (fun h178 => ?_) (fun h178 => ?_)
                  · refine J_seq ?_
                    refine J_region ?_
                    refine JL_q (wants_none rfl) rfl (ex_build si_39 rfl .nil (fun w hh => trivial)) ?_
                    refine JL_sk (wants_none rfl) (sk_store_bx' 15 ti_39 rfl rfl (fun w hh => (cv_aggs ⟨cv_int, cv_slice, cv_slice, trivial⟩)) rfl rfl rfl rfl) ?_
                    refine JL_q (wants_none rfl) rfl (ex_assign rfl) ?_
                    refine JL_nil ?_
                    refine N_then ?_
                    refine J_ret ?_
                    refine N_then_ret ?_
                    refine N_ctx (fun w hh => SH.ow_nil (α := Int) 2 hh) ?_
                    refine N_ctx (fun w hh => SH.ow_nil (α := Int) 2 hh) ?_
                    exact N_ret2 rfl (rv_cell 17 rfl rfl ti_39 rfl) (rv_tmp rfl) (fun w hh => ⟨((.slice none 0 0 : Value), (.slice none 0 0 : Value)), rfl, hh.sel [1, 0] rfl⟩)
                  · refine J_skip ?_
                    refine N_then ?_
                    refine J_seq ?_
                    refine J_region ?_
                    refine JL_q (wants_none rfl) rfl (ex_load_bx_agg 3 ti_39 rfl rfl rfl rfl) ?_
                    refine JL_sk (wants_none rfl) (sk_store_bx' 15 ti_39 rfl rfl (fun w hh => (cv_aggs ⟨cv_int, (hh.cv_ow 2 rfl), (hh.cv_ow 0 rfl), trivial⟩)) rfl rfl rfl rfl) ?_
                    refine JL_q (wants_none rfl) rfl (ex_assign rfl) ?_
                    refine JL_nil ?_
                    refine N_then ?_
                    refine J_ret ?_
                    exact N_ret2 rfl (rv_cell 15 rfl rfl ti_39 rfl) (rv_tmp rfl) (fun w hh => ⟨(x169, x175), rfl, hh.sel [2, 0] rfl⟩)
              · refine JO_st rfl (wants_none rfl) rfl (st_alloc zi_39 rfl) (fun _ hk => nomatch hk) (fun b179 => ?_)
                refine JD_one (i := 4) (by kernel_rfl) ?_
                refine JO_call rfl (wants_none rfl) rfl Try.call54 rfl (Ca_self (fun _ => rfl) fun w hh => c_spec_l13Codes _ w (fun _ hk => hk.elim) _ _ (hh.rd0 8 rfl) _ _ _ hr136) (fun x180 => ?_)
                refine JD_bnd fun r181 hr182 => ?_
                refine JD_one (i := 5) (by kernel_rfl) ?_
                refine JO_call rfl (wants_none rfl) rfl Try.call45 rfl (Ca_self (fun _ => rfl) fun w hh => c_spec_l05Trim _ w (fun _ hk => hk.elim) _ _ (hh.ow0 0 rfl) _ hr182) (fun x183 => ?_)
                refine JD_bnd fun r184 hr185 => ?_
                refine JD_one (i := 9) (by kernel_rfl) ?_
                refine JO_call rfl (wants_none rfl) rfl Try.call54 rfl (Ca_self (fun _ => rfl) fun w hh => c_spec_l13Codes _ w (fun _ hk => hk.elim) _ _ (hh.rd0 11 rfl) _ _ _ hr185) (fun x186 => ?_)
                refine JD_bnd fun r187 hr188 => ?_
                refine JD_one (i := 10) (by kernel_rfl) ?_
                refine JO_call rfl (wants_none rfl) rfl Try.call45 rfl (Ca_self (fun _ => rfl) fun w hh => c_spec_l05Trim _ w (fun _ hk => hk.elim) _ _ (hh.ow0 0 rfl) _ hr188) (fun x189 => ?_)
                refine JD_one (i := 11) (by kernel_rfl) ?_
                refine JO_q rfl (wants_none rfl) rfl (ex_build si_39 rfl (.cons fi_39_0 rfl rfl (.cons fi_39_1 rfl rfl (.cons fi_39_2 rfl rfl .nil))) (fun w hh => ⟨cv_int, (hh.cv_ow 2 rfl), (hh.cv_ow 0 rfl), trivial⟩)) ?_
                refine JD_one (i := 13) (by kernel_rfl) ?_
                refine JO_sk2 4 [] [0, 1, 2, 3, 4, 5, 6, 7, 8, 9, 10] [5, 6, 7, 8, 9, 10, 11, 12, 13, 14, 15] rfl rfl rfl rfl rfl rfl (wants_none rfl) (sk_store_bx' 4 ti_39 rfl rfl (fun w hh => (cv_aggs ⟨cv_int, (hh.cv_ow 2 rfl), (hh.cv_ow 0 rfl), trivial⟩)) rfl rfl rfl rfl) (fun _ hk => hk) ?_
                refine JD_done (by kernel_rfl) ?_
                refine N_then ?_
                refine J_seq ?_
                refine J_seq ?_
                refine J_region ?_
                refine JL_q (wants_none rfl) rfl (ex_move rfl) ?_
                refine JL_q (wants_none rfl) rfl (ex_nilCheck rfl) ?_
                refine JL_q (wants_none rfl) rfl (ex_fieldAddr fi_55_4 rfl rfl) ?_
                refine JL_bnd fun r190 hr191 => ?_
                refine JL_call (wants_none rfl) rfl Try.call42 rfl (Ca_of0 fun w hh => c_spec_l05Good _ w (fun _ hk => hk.elim) _ _ (hh.bx_paN (off := 0 + 4) (cs1 := [.int .i64 2, .int .i64 (s18.1.length : Int), g19_2]) 10 rfl rfl (GMachine.rdmk (Rd.mk_int _ _ _) (Rd.mk_int _ _ _) (hh.ow0 9 rfl)) rfl) _ _ (hh.bx_pa 4 rfl (GConfig.rdmk (Rd.mk_int _ _ _) (hh.ow0 2 rfl) (hh.ow0 0 rfl)) rfl) _ hr191) (fun _ => ?_)
                refine JL_q (wants_none rfl) rfl (ex_not rfl) ?_
                refine JL_nil ?_
                refine N_then ?_
                refine J_if rfl (fun h192 => ?_) (fun h192 => ?_)
                · refine J_seq ?_
                  refine J_region ?_
                  refine JL_q (wants_none rfl) rfl (ex_build si_39 rfl .nil (fun w hh => trivial)) ?_
                  refine JL_sk (wants_none rfl) (sk_store_bx' 15 ti_39 rfl rfl (fun w hh => (cv_aggs ⟨cv_int, cv_slice, cv_slice, trivial⟩)) rfl rfl rfl rfl) ?_
                  refine JL_q (wants_none rfl) rfl (ex_assign rfl) ?_
                  refine JL_nil ?_
                  refine N_then ?_
                  refine J_ret ?_
                  refine N_then_ret ?_
                  refine N_ctx (fun w hh => SH.ow_nil (α := Int) 2 hh) ?_
                  refine N_ctx (fun w hh => SH.ow_nil (α := Int) 2 hh) ?_
                  exact N_ret2 rfl (rv_cell 17 rfl rfl ti_39 rfl) (rv_tmp rfl) (fun w hh => ⟨((.slice none 0 0 : Value), (.slice none 0 0 : Value)), rfl, hh.sel [1, 0] rfl⟩)
                · refine J_skip ?_
                  refine N_then ?_
                  refine J_seq ?_
                  refine J_region ?_
                  refine JL_q (wants_none rfl) rfl (ex_load_bx_agg 4 ti_39 rfl rfl rfl rfl) ?_
                  refine JL_sk (wants_none rfl) (sk_store_bx' 15 ti_39 rfl rfl (fun w hh => (cv_aggs ⟨cv_int, (hh.cv_ow 2 rfl), (hh.cv_ow 0 rfl), trivial⟩)) rfl rfl rfl rfl) ?_
                  refine JL_q (wants_none rfl) rfl (ex_assign rfl) ?_
                  refine JL_nil ?_
                  refine N_then ?_
                  refine J_ret ?_
                  exact N_ret2 rfl (rv_cell 15 rfl rfl ti_39 rfl) (rv_tmp rfl) (fun w hh => ⟨(x183, x189), rfl, hh.sel [2, 0] rfl⟩)
          · refine J_skip ?_
            refine N_block ?_
            refine N_then ?_
            refine J_region ?_
            refine JL_q (wants_none rfl) rfl (ex_move rfl) ?_
            refine JL_q (wants_none rfl) rfl (ex_add rfl rfl) ?_
            refine JL_q (wants_none rfl) rfl (ex_assign rfl) ?_
            refine JL_nil ?_
            exact N_next' () ⟨rfl, rfl, rfl, trivial⟩ [1, 2, 3, 4, 5, 6, 7, 8, 9, 10] rfl rfl
        · refine J_exit ?_
          refine N_then_exit ?_
          exact N_break' () ⟨rfl, rfl, rfl, trivial⟩ [0, 1, 2, 3, 4, 5, 6, 7, 8, 9] rfl rfl
      · refine N_then ?_
        refine J_seq ?_
        refine J_region ?_
        refine JL_q (wants_none rfl) rfl (ex_assign rfl) ?_
        refine JL_nil ?_
        refine N_then ?_
        refine J_ret ?_
        refine N_inl1 hK117 rfl (rv_tmp rfl) ?_
        refine JL_q (wants_none rfl) rfl (ex_assign rfl) ?_
        refine JL_nil ?_
        refine N_then ?_
        refine J_seq ?_
        refine J_seq ?_
        refine J_region ?_
        refine JL_q (wants_none rfl) rfl (ex_move rfl) ?_
        refine JL_q (wants_none rfl) rfl (ex_lss rfl rfl) ?_
        refine JL_nil ?_
        refine N_then ?_
        refine J_if_true rfl (by decide) ?_
        refine J_seq ?_
        refine J_region ?_
        refine JL_q (wants_none rfl) rfl (ex_build si_39 rfl .nil (fun w hh => trivial)) ?_
        refine JL_sk (wants_none rfl) (sk_store_bx' 9 ti_39 rfl rfl (fun w hh => (cv_aggs ⟨cv_int, cv_slice, cv_slice, trivial⟩)) rfl rfl rfl rfl) ?_
        refine JL_q (wants_none rfl) rfl (ex_assign rfl) ?_
        refine JL_nil ?_
        refine N_then ?_
        refine J_ret ?_
        refine N_then_ret ?_
        refine N_ctx (fun w hh => SH.ow_nil (α := Int) 2 hh) ?_
        refine N_ctx (fun w hh => SH.ow_nil (α := Int) 2 hh) ?_
        exact N_ret2 rfl (rv_cell 11 rfl rfl ti_39 rfl) (rv_tmp rfl) (fun w hh => ⟨((.slice none 0 0 : Value), (.slice none 0 0 : Value)), rfl, hh.sel [1, 0] rfl⟩)

set_option maxHeartbeats 40000000 in
theorem c_impl_coded (A : Nat → Prop) (w : World) (hA : ∀ k, A k → k < w.heap.size) (v0_ : Value) (p0 : (List Int)) (hp0 : Rd A w v0_ p0) (p1 : Int) (r : (List Int)) (hr : F_impl_coded p0 p1 = some r) :
    Con Try.prog 59 [v0_, .int .i64 p1] A w (fun x_ : Value => x_) (fun x_ => [.ow 2 x_ r]) := by
  refine Con_of (v := fun (r : (List Int)) (x_ : Value) => x_) (fs := fun r x_ => [.ow 2 x_ r]) Try.func59 rfl Try.ntmps59 rfl ((SH.start hA).start_rd rfl hp0) rfl ?_ hr
  unfold F_impl_coded
  refine J_seq ?_
  refine J_region ?_
  refine JL_q (wants_none rfl) rfl (ex_assign rfl) ?_
  refine JL_nil ?_
  refine N_then ?_
  refine J_seq ?_
  refine J_region ?_
  refine JL_st (wants_none rfl) rfl (st_buildSlice (vs := []) ([] : List Int) Try.underlying35 ti_2 zi_2 rfl rfl rfl (fun w hh => trivial)) (fun b1 => ?_)
  refine JL_q (wants_none rfl) rfl (ex_assign rfl) ?_
  refine JL_nil ?_
  refine N_then ?_
  refine J_seq ?_
  refine J_seq ?_
  refine J_region ?_
  refine JL_q (wants_none rfl) rfl (ex_move rfl) ?_
  refine JL_q (wants_none rfl) rfl (ex_len_rd 1 Try.underlying35 rfl rfl) ?_
  refine JL_q (wants_none rfl) rfl (ex_move rfl) ?_
  refine JL_nil ?_
  refine N_then ?_
  refine J_loop' (S := (List Int) × Int) (G := Value) (F_impl_coded_L1 p0 p1) (fun s2 g3 => [(1, .int .i64 p1), (5, g3), (10, v0_), (11, .int .i64 (p0.length : Int)), (12, .int .i64 s2.2)]) (fun s2 g3 => [.ow 2 g3 s2.1, .rd v0_ p0]) (([] : List Int), 0) (.slice (some ⟨b1, 0, none⟩) 0 0) ⟨rfl, rfl, rfl, rfl, rfl, trivial⟩ [0, 1] rfl rfl (fun s2 g3 => ?_) (fun s2 g3 => ?_)
  · unfold F_impl_coded_L1
    refine J_seq ?_
    refine J_region ?_
    refine JL_q (wants_none rfl) rfl (ex_lss rfl rfl) ?_
    refine JL_nil ?_
    refine N_then ?_
    refine J_seq ?_
    refine J_if rfl (fun h4 => ?_) (fun h4 => ?_)
    · refine J_skip ?_
      refine N_then ?_
      refine J_seq ?_
      refine J_block ?_
      refine J_seq ?_
      refine J_region ?_
      refine JL_bnd fun y5 hy6 => ?_
      refine JL_st (wants_none rfl) rfl (st_index 1 Try.underlying35 ti_2 rfl rfl rfl hy6) (fun q7 => ?_)
      refine JL_st (wants_none rfl) rfl (st_load_pt_o 0 (opens_int _) ti_2 rfl rfl) (fun _ => ?_)
      refine JL_q (wants_none rfl) rfl (ex_assign rfl) ?_
      refine JL_nil ?_
      refine N_then ?_
      refine J_seq ?_
      refine J_region ?_
      refine JL_q (wants_none rfl) rfl (ex_move rfl) ?_
      refine JL_q (wants_none rfl) rfl (ex_move rfl) ?_
      refine JL_nil ?_
      refine N_then ?_
      refine J_loop' (S := (List Int) × Int) (G := Value) (F_impl_coded_L2 p1 y5) (fun s9 g10 => [(1, .int .i64 p1), (5, g10), (7, .int .i64 y5), (10, v0_), (11, .int .i64 (p0.length : Int)), (12, .int .i64 s2.2), (16, .int .i64 p1), (17, .int .i64 s9.2)]) (fun s9 g10 => [.ow 2 g10 s9.1, .rd v0_ p0]) (s2.1, 0) g3 ⟨rfl, rfl, rfl, rfl, rfl, rfl, rfl, rfl, trivial⟩ [1, 2] rfl rfl (fun s9 g10 => ?_) (fun s9 g10 => ?_)
      · unfold F_impl_coded_L2
        refine J_seq ?_
        refine J_region ?_
        refine JL_q (wants_none rfl) rfl (ex_lss rfl rfl) ?_
        refine JL_nil ?_
        refine N_then ?_
        refine J_seq ?_
        refine J_if rfl (fun h11 => ?_) (fun h11 => ?_)
        · refine J_skip ?_
          refine N_then ?_
          refine J_seq ?_
          refine J_block ?_
          refine J_seq ?_
          refine J_region ?_
          refine JL_q (wants_none rfl) rfl (ex_move rfl) ?_
          refine JL_q (wants_none rfl) rfl (ex_assign rfl) ?_
          refine JL_nil ?_
          refine N_then ?_
          refine J_region ?_
          refine JL_q (wants_none rfl) rfl (ex_move rfl) ?_
          refine JL_q (wants_none rfl) rfl (ex_move rfl) ?_
          refine JL_q (wants_none rfl) rfl (ex_move rfl) ?_
          refine JL_q (wants_none rfl) rfl (ex_move rfl) ?_
          refine JL_bnd fun r12 hr13 => ?_
          refine JL_call (wants_none rfl) rfl Try.call77 rfl (Ca_of0 fun w hh => c_impl_bitAt _ w (fun _ hk => hk.elim) _ _ _ _ hr13) (fun _ => ?_)
          refine JL_st (wants_none rfl) rfl (st_buildSlice (vs := [.int .i64 r12]) ([r12] : List Int) Try.underlying35 ti_2 zi_2 rfl rfl rfl (fun w hh => ⟨(Rd.mk_int _ _ _), trivial⟩)) (fun b14 => ?_)
          refine JL_bnd fun z15 hz16 => ?_
          refine JL_st (wants_none rfl) rfl (st_append 1 Try.underlying35 ti_2 zi_2 rfl bi_2 rfl rfl rfl rfl (fun w hh => hh.src_ow 0 rfl) hz16) (fun v17 => ?_)
          refine JL_q (wants_none rfl) rfl (ex_assign rfl) ?_
          refine JL_nil ?_
          refine N_block ?_
          refine N_then ?_
          refine J_region ?_
          refine JL_q (wants_none rfl) rfl (ex_add rfl rfl) ?_
          refine JL_q (wants_none rfl) rfl (ex_move rfl) ?_
          refine JL_nil ?_
          exact N_next' v17 ⟨rfl, rfl, rfl, rfl, rfl, rfl, rfl, rfl, trivial⟩ [1, 2] rfl rfl
        · refine J_exit ?_
          refine N_then_exit ?_
          exact N_break' g10 ⟨rfl, rfl, rfl, rfl, rfl, rfl, rfl, rfl, trivial⟩ [0, 1] rfl rfl
      · refine N_block ?_
        refine N_then ?_
        refine J_region ?_
        refine JL_q (wants_none rfl) rfl (ex_add rfl rfl) ?_
        refine JL_q (wants_none rfl) rfl (ex_move rfl) ?_
        refine JL_nil ?_
        exact N_next' g10 ⟨rfl, rfl, rfl, rfl, rfl, trivial⟩ [0, 1] rfl rfl
    · refine J_exit ?_
      refine N_then_exit ?_
      exact N_break' g3 ⟨rfl, rfl, rfl, rfl, rfl, trivial⟩ [0, 1] rfl rfl
  · refine N_then ?_
    refine J_seq ?_
    refine J_region ?_
    refine JL_q (wants_none rfl) rfl (ex_move rfl) ?_
    refine JL_q (wants_none rfl) rfl (ex_assign rfl) ?_
    refine JL_nil ?_
    refine N_then ?_
    refine J_ret ?_
    exact N_ret1 rfl (rv_tmp rfl) (fun w hh => ⟨g3, rfl, hh.sel [0] rfl⟩)

end Go.Proofs.Ytceimgjcikkadaa
