/-
  Each function of the program computes what its plain function says: printed by program. No condition.
-/
import Derived.Test.YtceimgjcikkadaaFn
import Derived.Test.YtceimgjcikkadaaInf
import Derived.Test.YtceimgjcikkadaaCon1
import Derived.Test.YtceimgjcikkadaaCon2
import Derived.Test.YtceimgjcikkadaaCon4
import Derived.Test.YtceimgjcikkadaaCon8
namespace Go.Proofs.Ytceimgjcikkadaa
open Go Go.Tc Go.Fn
set_option linter.unusedVariables false

set_option maxHeartbeats 40000000 in
theorem c_spec_l03Reverse (A : Nat → Prop) (w : World) (hA : ∀ k, A k → k < w.heap.size) (v0_ : Value) (p0 : (List Int)) (hp0 : Rd A w v0_ p0) (r : (List Int)) (hr : F_spec_l03Reverse p0 = some r) :
    Con Try.prog 61 [v0_] A w (fun x_ : Value => x_) (fun x_ => [.ow 2 x_ r]) := by
  refine Con_of (v := fun (r : (List Int)) (x_ : Value) => x_) (fs := fun r x_ => [.ow 2 x_ r]) Try.func61 rfl Try.ntmps61 rfl ((SH.start hA).start_rd rfl hp0) rfl ?_ hr
  unfold F_spec_l03Reverse
  refine J_seq ?_
  refine J_region ?_
  refine JL_q (wants_none rfl) rfl (ex_assign rfl) ?_
  refine JL_nil ?_
  refine N_then ?_
  refine J_seq ?_
  refine J_region ?_
  refine JL_st (wants_none rfl) rfl (st_buildSlice (vs := []) ([] : List Int) Try.underlying35 ti_2 zi_2 rfl rfl rfl (fun w hh => trivial)) (fun b1 => ?_)
  refine JL_q (wants_none rfl) rfl (ex_assign rfl) ?_
  refine JL_nil ?_
  refine N_then ?_
  refine J_seq ?_
  refine J_seq ?_
  refine J_region ?_
  refine JL_q (wants_none rfl) rfl (ex_move rfl) ?_
  refine JL_q (wants_none rfl) rfl (ex_len_rd 1 Try.underlying35 rfl rfl) ?_
  refine JL_q (wants_none rfl) rfl (ex_sub rfl rfl) ?_
  refine JL_q (wants_none rfl) rfl (ex_assign rfl) ?_
  refine JL_nil ?_
  refine N_then ?_
  refine J_loop' (S := (List Int) × Int) (G := Value) (F_spec_l03Reverse_L1 p0) (fun s2 g3 => [(0, v0_), (3, g3), (4, .int .i64 s2.2)]) (fun s2 g3 => [.rd v0_ p0, .ow 2 g3 s2.1]) (([] : List Int), (w64 ((p0.length : Int) - 1))) (.slice (some ⟨b1, 0, none⟩) 0 0) ⟨rfl, rfl, rfl, trivial⟩ [1, 0] rfl rfl (fun s2 g3 => ?_) (fun s2 g3 => ?_)
  · unfold F_spec_l03Reverse_L1
    refine J_seq ?_
    refine J_seq ?_
    refine J_region ?_
    refine JL_q (wants_none rfl) rfl (ex_move rfl) ?_
    refine JL_q (wants_none rfl) rfl (ex_geq rfl rfl) ?_
    refine JL_nil ?_
    refine N_then ?_
    refine J_if rfl (fun h4 => ?_) (fun h4 => ?_)
    · refine J_skip ?_
      refine N_then ?_
      refine J_seq ?_
      refine J_block ?_
      refine J_region ?_
      refine JL_q (wants_none rfl) rfl (ex_move rfl) ?_
      refine JL_q (wants_none rfl) rfl (ex_move rfl) ?_
      refine JL_q (wants_none rfl) rfl (ex_move rfl) ?_
      refine JL_bnd fun y5 hy6 => ?_
      refine JL_st (wants_none rfl) rfl (st_index 0 Try.underlying35 ti_2 rfl rfl rfl hy6) (fun q7 => ?_)
      refine JL_st (wants_none rfl) rfl (st_load_pt_o 0 (opens_int _) ti_2 rfl rfl) (fun _ => ?_)
      refine JL_st (wants_none rfl) rfl (st_buildSlice (vs := [.int .i64 y5]) ([y5] : List Int) Try.underlying35 ti_2 zi_2 rfl rfl rfl (fun w hh => ⟨(Rd.mk_int _ _ _), trivial⟩)) (fun b9 => ?_)
      refine JL_bnd fun z10 hz11 => ?_
      refine JL_st (wants_none rfl) rfl (st_append 3 Try.underlying35 ti_2 zi_2 rfl bi_2 rfl rfl rfl rfl (fun w hh => hh.src_ow 0 rfl) hz11) (fun v12 => ?_)
      refine JL_q (wants_none rfl) rfl (ex_assign rfl) ?_
      refine JL_nil ?_
      refine N_block ?_
      refine N_then ?_
      refine J_region ?_
      refine JL_q (wants_none rfl) rfl (ex_move rfl) ?_
      refine JL_q (wants_none rfl) rfl (ex_sub rfl rfl) ?_
      refine JL_q (wants_none rfl) rfl (ex_assign rfl) ?_
      refine JL_nil ?_
      exact N_next' v12 ⟨rfl, rfl, rfl, trivial⟩ [2, 3] rfl rfl
    · refine J_exit ?_
      refine N_then_exit ?_
      exact N_break' g3 ⟨rfl, rfl, rfl, trivial⟩ [0, 1] rfl rfl
  · refine N_then ?_
    refine J_seq ?_
    refine J_region ?_
    refine JL_q (wants_none rfl) rfl (ex_move rfl) ?_
    refine JL_q (wants_none rfl) rfl (ex_assign rfl) ?_
    refine JL_nil ?_
    refine N_then ?_
    refine J_ret ?_
    exact N_ret1 rfl (rv_tmp rfl) (fun w hh => ⟨g3, rfl, hh.sel [1] rfl⟩)

set_option maxHeartbeats 40000000 in
theorem c_spec_l13Symbols (A : Nat → Prop) (w : World) (hA : ∀ k, A k → k < w.heap.size) (v0_ : Value) (p0 : (List Int)) (hp0 : Rd A w v0_ p0) (p1 : Int) (p2 : Int) (p3 : Bool) (r : (List Int) × Bool) (hr : F_spec_l13Symbols p0 p1 p2 p3 = some r) :
    Con Try.prog 62 [v0_, .int .i64 p1, .int .i64 p2, .bool p3] A w (fun x_ : Value => .tuple #[x_, .bool r.2]) (fun x_ => [.ow 2 x_ r.1]) := by
  refine Con_of (v := fun (r : (List Int) × Bool) (x_ : Value) => .tuple #[x_, .bool r.2]) (fs := fun r x_ => [.ow 2 x_ r.1]) Try.func62 rfl Try.ntmps62 rfl ((SH.start hA).start_rd rfl hp0) rfl ?_ hr
  unfold F_spec_l13Symbols
  refine J_seq ?_
  refine J_region ?_
  refine JL_q (wants_none rfl) rfl (ex_assign rfl) ?_
  refine JL_q (wants_none rfl) rfl (ex_assign rfl) ?_
  refine JL_nil ?_
  refine N_then ?_
  refine J_seq ?_
  refine J_region ?_
  refine JL_st (wants_none rfl) rfl (st_buildSlice (vs := []) ([] : List Int) Try.underlying35 ti_2 zi_2 rfl rfl rfl (fun w hh => trivial)) (fun b1 => ?_)
  refine JL_q (wants_none rfl) rfl (ex_assign rfl) ?_
  refine JL_nil ?_
  refine N_then ?_
  refine J_seq ?_
  refine J_seq ?_
  refine J_region ?_
  refine JL_q (wants_none rfl) rfl (ex_assign rfl) ?_
  refine JL_nil ?_
  refine N_then ?_
  refine J_loop' (S := (List Int) × Int) (G := Value) (F_spec_l13Symbols_L1 p0 p1 p2 p3) (fun s2 g3 => [(0, v0_), (1, .int .i64 p1), (2, .int .i64 p2), (3, .bool p3), (10, g3), (11, .int .i64 s2.2)]) (fun s2 g3 => [.rd v0_ p0, .ow 2 g3 s2.1]) (([] : List Int), 0) (.slice (some ⟨b1, 0, none⟩) 0 0) ⟨rfl, rfl, rfl, rfl, rfl, rfl, trivial⟩ [1, 0] rfl rfl (fun s2 g3 => ?_) (fun s2 g3 => ?_)
  · unfold F_spec_l13Symbols_L1
    refine J_seq ?_
    refine J_seq ?_
    refine J_region ?_
    refine JL_q (wants_none rfl) rfl (ex_move rfl) ?_
    refine JL_q (wants_none rfl) rfl (ex_move rfl) ?_
    refine JL_q (wants_none rfl) rfl (ex_len_rd 0 Try.underlying35 rfl rfl) ?_
    refine JL_q (wants_none rfl) rfl (ex_lss rfl rfl) ?_
    refine JL_nil ?_
    refine N_then ?_
    refine J_if rfl (fun h4 => ?_) (fun h4 => ?_)
    · refine J_skip ?_
      refine N_then ?_
      refine J_seq ?_
      refine J_block ?_
      refine J_seq ?_
      refine J_region ?_
      refine JL_q (wants_none rfl) rfl (ex_assign rfl) ?_
      refine JL_nil ?_
      refine N_then ?_
      refine J_seq ?_
      refine J_seq ?_
      refine J_region ?_
      refine JL_q (wants_none rfl) rfl (ex_assign rfl) ?_
      refine JL_nil ?_
      refine N_then ?_
      refine J_loop' (S := Int × Int) (G := Unit) (F_spec_l13Symbols_L2 p0 p1 p3 s2) (fun s5 _ => [(0, v0_), (1, .int .i64 p1), (2, .int .i64 p2), (3, .bool p3), (10, g3), (11, .int .i64 s2.2), (12, .int .i64 s5.1), (13, .int .i64 s5.2)]) (fun s5 _ => [.rd v0_ p0, .ow 2 g3 s2.1]) (0, 0) () ⟨rfl, rfl, rfl, rfl, rfl, rfl, rfl, rfl, trivial⟩ [0, 1] rfl rfl (fun s5 g6 => ?_) (fun s5 g6 => ?_)
      · unfold F_spec_l13Symbols_L2
        refine J_seq ?_
        refine J_seq ?_
        refine J_region ?_
        refine JL_q (wants_none rfl) rfl (ex_move rfl) ?_
        refine JL_q (wants_none rfl) rfl (ex_move rfl) ?_
        refine JL_q (wants_none rfl) rfl (ex_lss rfl rfl) ?_
        refine JL_nil ?_
        refine N_then ?_
        refine J_if rfl (fun h7 => ?_) (fun h7 => ?_)
        · refine J_skip ?_
          refine N_then ?_
          refine J_seq ?_
          refine J_block ?_
          refine J_seq ?_
          refine J_region ?_
          refine JL_q (wants_none rfl) rfl (ex_move rfl) ?_
          refine JL_q (wants_none rfl) rfl (ex_move rfl) ?_
          refine JL_q (wants_none rfl) rfl (ex_add rfl rfl) ?_
          refine JL_q (wants_none rfl) rfl (ex_assign rfl) ?_
          refine JL_nil ?_
          refine N_then ?_
          refine J_seq ?_
          refine J_cut' (S' := Int) (G' := Unit) (fun s8 _ => [(0, v0_), (1, .int .i64 p1), (2, .int .i64 p2), (3, .bool p3), (10, g3), (11, .int .i64 s2.2), (12, .int .i64 s5.1), (13, .int .i64 s5.2), (14, .int .i64 s8)]) (fun s8 _ => [.rd v0_ p0, .ow 2 g3 s2.1]) ?_ (fun s8 g9 => ?_)
          · refine J_seq ?_
            refine J_region ?_
            refine JL_q (wants_none rfl) rfl (ex_move rfl) ?_
            refine JL_nil ?_
            refine N_then ?_
            refine J_if rfl (fun h10 => ?_) (fun h10 => ?_)
            · refine J_region ?_
              refine JL_q (wants_none rfl) rfl (ex_move rfl) ?_
              refine JL_q (wants_none rfl) rfl (ex_move rfl) ?_
              refine JL_q (wants_none rfl) rfl (ex_add rfl rfl) ?_
              refine JL_q (wants_none rfl) rfl (ex_sub rfl rfl) ?_
              refine JL_q (wants_none rfl) rfl (ex_move rfl) ?_
              refine JL_q (wants_none rfl) rfl (ex_sub rfl rfl) ?_
              refine JL_q (wants_none rfl) rfl (ex_assign rfl) ?_
              refine JL_nil ?_
              exact N_meet' () ⟨rfl, rfl, rfl, rfl, rfl, rfl, rfl, rfl, rfl, trivial⟩ [0, 1] rfl rfl
            · refine J_skip ?_
              exact N_meet' () ⟨rfl, rfl, rfl, rfl, rfl, rfl, rfl, rfl, rfl, trivial⟩ [0, 1] rfl rfl
          · refine N_then ?_
            refine J_seq ?_
            refine J_region ?_
            refine JL_q (wants_none rfl) rfl (ex_move rfl) ?_
            refine JL_q (wants_none rfl) rfl (ex_mul rfl rfl) ?_
            refine JL_q (wants_none rfl) rfl (ex_assign rfl) ?_
            refine JL_nil ?_
            refine N_then ?_
            refine J_seq ?_
            refine J_region ?_
            refine JL_q (wants_none rfl) rfl (ex_move rfl) ?_
            refine JL_q (wants_none rfl) rfl (ex_move rfl) ?_
            refine JL_q (wants_none rfl) rfl (ex_len_rd 0 Try.underlying35 rfl rfl) ?_
            refine JL_q (wants_none rfl) rfl (ex_lss rfl rfl) ?_
            refine JL_nil ?_
            refine N_then ?_
            refine J_if rfl (fun h11 => ?_) (fun h11 => ?_)
            · refine J_region ?_
              refine JL_q (wants_none rfl) rfl (ex_move rfl) ?_
              refine JL_q (wants_none rfl) rfl (ex_move rfl) ?_
              refine JL_q (wants_none rfl) rfl (ex_move rfl) ?_
              refine JL_bnd fun y12 hy13 => ?_
              refine JL_st (wants_none rfl) rfl (st_index 0 Try.underlying35 ti_2 rfl rfl rfl hy13) (fun q14 => ?_)
              refine JL_st (wants_none rfl) rfl (st_load_pt_o 0 (opens_int _) ti_2 rfl rfl) (fun _ => ?_)
              refine JL_q (wants_none rfl) rfl (ex_add rfl rfl) ?_
              refine JL_q (wants_none rfl) rfl (ex_assign rfl) ?_
              refine JL_nil ?_
              refine N_block ?_
              refine N_then ?_
              refine J_region ?_
              refine JL_q (wants_none rfl) rfl (ex_move rfl) ?_
              refine JL_q (wants_none rfl) rfl (ex_add rfl rfl) ?_
              refine JL_q (wants_none rfl) rfl (ex_assign rfl) ?_
              refine JL_nil ?_
              exact N_next' () ⟨rfl, rfl, rfl, rfl, rfl, rfl, rfl, rfl, trivial⟩ [1, 2] rfl rfl
            · refine J_skip ?_
              refine N_block ?_
              refine N_then ?_
              refine J_region ?_
              refine JL_q (wants_none rfl) rfl (ex_move rfl) ?_
              refine JL_q (wants_none rfl) rfl (ex_add rfl rfl) ?_
              refine JL_q (wants_none rfl) rfl (ex_assign rfl) ?_
              refine JL_nil ?_
              exact N_next' () ⟨rfl, rfl, rfl, rfl, rfl, rfl, rfl, rfl, trivial⟩ [0, 1] rfl rfl
        · refine J_exit ?_
          refine N_then_exit ?_
          exact N_break' () ⟨rfl, rfl, rfl, rfl, rfl, rfl, rfl, rfl, trivial⟩ [0, 1] rfl rfl
      · refine N_then ?_
        refine J_seq ?_
        refine J_seq ?_
        refine J_region ?_
        refine JL_q (wants_none rfl) rfl (ex_move rfl) ?_
        refine JL_q (wants_none rfl) rfl (ex_move rfl) ?_
        refine JL_q (wants_none rfl) rfl (ex_geq rfl rfl) ?_
        refine JL_nil ?_
        refine N_then ?_
        refine J_if rfl (fun h16 => ?_) (fun h16 => ?_)
        · refine J_seq ?_
          refine J_region ?_
          refine JL_q (wants_none rfl) rfl (ex_assign rfl) ?_
          refine JL_q (wants_none rfl) rfl (ex_assign rfl) ?_
          refine JL_nil ?_
          refine N_then ?_
          refine J_ret ?_
          refine N_then_ret ?_
          refine N_block_ret ?_
          refine N_then_ret ?_
          refine N_round_ret ?_
          refine N_then_ret ?_
          refine N_ctx (fun w hh => SH.ow_nil (α := Int) 2 hh) ?_
          exact N_ret2 rfl (rv_tmp rfl) (rv_tmp rfl) (fun w hh => ⟨(.slice none 0 0 : Value), rfl, hh.sel [0] rfl⟩)
        · refine J_skip ?_
          refine N_then ?_
          refine J_region ?_
          refine JL_q (wants_none rfl) rfl (ex_move rfl) ?_
          refine JL_q (wants_none rfl) rfl (ex_move rfl) ?_
          refine JL_st (wants_none rfl) rfl (st_buildSlice (vs := [.int .i64 s5.1]) ([s5.1] : List Int) Try.underlying35 ti_2 zi_2 rfl rfl rfl (fun w hh => ⟨(Rd.mk_int _ _ _), trivial⟩)) (fun b17 => ?_)
          refine JL_bnd fun z18 hz19 => ?_
          refine JL_st (wants_none rfl) rfl (st_append 2 Try.underlying35 ti_2 zi_2 rfl bi_2 rfl rfl rfl rfl (fun w hh => hh.src_ow 0 rfl) hz19) (fun v20 => ?_)
          refine JL_q (wants_none rfl) rfl (ex_assign rfl) ?_
          refine JL_nil ?_
          refine N_block ?_
          refine N_then ?_
          refine J_region ?_
          refine JL_q (wants_none rfl) rfl (ex_move rfl) ?_
          refine JL_q (wants_none rfl) rfl (ex_move rfl) ?_
          refine JL_q (wants_none rfl) rfl (ex_add rfl rfl) ?_
          refine JL_q (wants_none rfl) rfl (ex_assign rfl) ?_
          refine JL_nil ?_
          exact N_next' v20 ⟨rfl, rfl, rfl, rfl, rfl, rfl, trivial⟩ [1, 2] rfl rfl
    · refine J_exit ?_
      refine N_then_exit ?_
      exact N_break' g3 ⟨rfl, rfl, rfl, rfl, rfl, rfl, trivial⟩ [0, 1] rfl rfl
  · refine N_then ?_
    refine J_seq ?_
    refine J_region ?_
    refine JL_q (wants_none rfl) rfl (ex_move rfl) ?_
    refine JL_bnd fun r21 hr22 => ?_
    refine JL_call (wants_none rfl) rfl Try.call45 rfl (Ca_self (fun _ => rfl) fun w hh => c_spec_l05Trim _ w (fun _ hk => hk.elim) _ _ (hh.ow0 1 rfl) _ hr22) (fun x23 => ?_)
    refine JL_q (wants_none rfl) rfl (ex_assign rfl) ?_
    refine JL_q (wants_none rfl) rfl (ex_assign rfl) ?_
    refine JL_nil ?_
    refine N_then ?_
    refine J_ret ?_
    exact N_ret2 rfl (rv_tmp rfl) (rv_tmp rfl) (fun w hh => ⟨x23, rfl, hh.sel [0] rfl⟩)

set_option maxHeartbeats 40000000 in
theorem c_spec_DecodeBinary (A : Nat → Prop) (w : World) (hA : ∀ k, A k → k < w.heap.size) (v0_ : Value) (p0 : GMachine) (hp0 : Rd A w v0_ p0) (v1_ : Value) (p1 : GConfig) (hp1 : Rd A w v1_ p1) (r : GConfig × Int) (hr : F_spec_DecodeBinary p0 p1 = some r) :
    Con Try.prog 26 [v0_, v1_] A w (fun x_ : Value × Value => .tuple #[.agg #[.int .i64 r.1.State, x_.1, x_.2], .int .i64 r.2]) (fun x_ => [.ow 2 x_.1 r.1.Left, .ow 2 x_.2 r.1.Right]) := by
  obtain ⟨v0_0, rfl, hp0_0⟩ := GMachine.open hp0
  obtain ⟨v1_0, v1_1, rfl, hp1_0, hp1_1⟩ := GConfig.open hp1
  refine Con_of (v := fun (r : GConfig × Int) (x_ : Value × Value) => .tuple #[.agg #[.int .i64 r.1.State, x_.1, x_.2], .int .i64 r.2]) (fs := fun r x_ => [.ow 2 x_.1 r.1.Left, .ow 2 x_.2 r.1.Right]) Try.func26 rfl Try.ntmps26 rfl ((((SH.start hA).start_rd rfl hp0_0).start_rd rfl hp1_0).start_rd rfl hp1_1) rfl ?_ hr
  unfold F_spec_DecodeBinary
  refine J_seq ?_
  refine J_region ?_
  refine JL_st (wants_none rfl) rfl (st_box' rfl (fun w hh => (cv_aggs ⟨cv_int, cv_int, (hh.cv 2 rfl), trivial⟩))) (fun b1 => ?_)
  refine JL_st (wants_none rfl) rfl (st_box' rfl (fun w hh => (cv_aggs ⟨cv_int, (hh.cv 2 rfl), (hh.cv 1 rfl), trivial⟩))) (fun b2 => ?_)
  refine JL_st (wants_none rfl) rfl (st_alloc zi_39 rfl) (fun b3 => ?_)
  refine JL_q (wants_none rfl) rfl (ex_assign rfl) ?_
  refine JL_nil ?_
  refine N_then ?_
  refine J_seq ?_
  refine J_seq ?_
  refine J_region ?_
  refine JL_bnd fun r4 hr5 => ?_
  refine JL_call (wants_none rfl) rfl Try.call29 rfl (Ca_of0 fun w hh => c_spec_l05Is _ w (fun _ hk => hk.elim) _ _ (hh.bx_pa 2 rfl (GMachine.rdmk (Rd.mk_int _ _ _) (Rd.mk_int _ _ _) (hh.rd0 5 rfl)) rfl) _ hr5) (fun _ => ?_)
  refine JL_q (wants_none rfl) rfl (ex_not rfl) ?_
  refine JL_nil ?_
  refine N_then ?_
  refine J_if rfl (fun h6 => ?_) (fun h6 => ?_)
  · refine J_seq ?_
    refine J_region ?_
    refine JL_q (wants_none rfl) rfl (ex_build si_39 rfl .nil (fun w hh => trivial)) ?_
    refine JL_sk (wants_none rfl) (sk_store_bx' 0 ti_39 rfl rfl (fun w hh => (cv_aggs ⟨cv_int, cv_slice, cv_slice, trivial⟩)) rfl rfl rfl rfl) ?_
    refine JL_q (wants_none rfl) rfl (ex_assign rfl) ?_
    refine JL_nil ?_
    refine N_then ?_
    refine J_ret ?_
    refine N_then_ret ?_
    refine N_ctx (fun w hh => SH.ow_nil (α := Int) 2 hh) ?_
    refine N_ctx (fun w hh => SH.ow_nil (α := Int) 2 hh) ?_
    exact N_ret2 rfl (rv_cell 2 rfl rfl ti_39 rfl) (rv_tmp rfl) (fun w hh => ⟨((.slice none 0 0 : Value), (.slice none 0 0 : Value)), rfl, hh.sel [1, 0] rfl⟩)
  · refine J_skip ?_
    refine N_then ?_
    refine J_seq ?_
    refine J_region ?_
    refine JL_inline (wants_none rfl) rfl Try.call30 rfl Try.func30 rfl Try.ntmps30 rfl rfl (fun K_ hK7 => ?_)
    refine J_seq ?_
    refine J_region ?_
    refine JL_q (wants_none rfl) rfl (ex_assign rfl) ?_
    refine JL_q (wants_none rfl) rfl (ex_assign rfl) ?_
    refine JL_nil ?_
    refine N_then ?_
    refine J_seq ?_
    refine J_region ?_
    refine JL_q (wants_none rfl) rfl (ex_move rfl) ?_
    refine JL_q (wants_none rfl) rfl (ex_build si_55 rfl (.cons fi_55_0 rfl rfl .nil) (fun w hh => ⟨cv_ptr, trivial⟩)) ?_
    refine JL_st (wants_none rfl) rfl (st_box' rfl (fun w hh => (cv_aggs ⟨cv_ptr, cv_ptr, cv_int, cv_slice, cv_int, cv_int, cv_slice, trivial⟩))) (fun b8 => ?_)
    refine JL_q (wants_none rfl) rfl (ex_assign rfl) ?_
    refine JL_nil ?_
    refine N_then ?_
    refine J_seq ?_
    refine J_region ?_
    refine JL_q (wants_none rfl) rfl (ex_move rfl) ?_
    refine JL_st (wants_none rfl) rfl (st_buildSlice (vs := [.int .i64 0, .int .i64 0, .int .i64 0, .int .i64 0]) ([0, 0, 0, 0] : List Int) Try.underlying35 ti_2 zi_2 rfl rfl rfl (fun w hh => ⟨(Rd.mk_int _ _ _), (Rd.mk_int _ _ _), (Rd.mk_int _ _ _), (Rd.mk_int _ _ _), trivial⟩)) (fun b9 => ?_)
    refine JL_inline (wants_none rfl) rfl Try.call67 rfl Try.func67 rfl Try.ntmps67 rfl rfl (fun K_ hK10 => ?_)
    refine J_seq ?_
    refine J_region ?_
    refine JL_q (wants_none rfl) rfl (ex_assign rfl) ?_
    refine JL_nil ?_
    refine N_then ?_
    refine J_seq ?_
    refine J_region ?_
    refine JL_q (wants_none rfl) rfl (ex_move rfl) ?_
    refine JL_q (wants_none rfl) rfl (ex_move rfl) ?_
    refine JL_ctx (fun w hh => hh.tokf 0 rfl rfl) ?_
    refine JL_st (wants_none rfl) rfl (st_buildSlice_od (vs := [(.slice (some ⟨b9, 0, none⟩) 4 4)]) (B := ((((.slice (some ⟨b9, 0, none⟩) 4 4) : Value).ownBlock.toList ++ []) ++ [])) ([([0, 0, 0, 0] : List Int)] : List (List Int)) [0] Try.underlying53 ti_35 zi_35 rfl rfl rfl rfl rfl (fun w hh => (dwv_cons (hh.dw 0 rfl) dwv_nil))) (fun b11 => ?_)
    refine JL_q (wants_none rfl) rfl (ex_nilCheck rfl) ?_
    refine JL_q (wants_none rfl) rfl (ex_fieldAddr fi_55_3 rfl rfl) ?_
    refine JL_sk (wants_none rfl) (sk_store_bx' 3 ti_53 rfl rfl (fun w hh => (hh.cv_od 0 rfl)) rfl rfl rfl rfl) ?_
    refine JL_nil ?_
    refine N_then ?_
    refine J_seq ?_
    refine J_region ?_
    refine JL_q (wants_none rfl) rfl (ex_move rfl) ?_
    refine JL_q (wants_none rfl) rfl (ex_move rfl) ?_
    refine JL_st (wants_none rfl) rfl (st_buildSlice (vs := []) ([] : List GRule) Try.underlying26 ti_97 zi_97 rfl rfl rfl (fun w hh => trivial)) (fun b12 => ?_)
    refine JL_q (wants_none rfl) rfl (ex_build si_28 rfl (.cons fi_28_0 rfl rfl (.cons fi_28_2 rfl rfl .nil)) (fun w hh => ⟨cv_int, (hh.cv_ow 0 rfl), trivial⟩)) ?_
    refine JL_q (wants_none rfl) rfl (ex_nilCheck rfl) ?_
    refine JL_q (wants_none rfl) rfl (ex_fieldAddr fi_55_4 rfl rfl) ?_
    refine JL_sk (wants_none rfl) (sk_store_bx' 4 ti_28 rfl rfl (fun w hh => (cv_aggs ⟨cv_int, cv_int, (hh.cv_ow 0 rfl), trivial⟩)) rfl rfl rfl rfl) ?_
    refine JL_nil ?_
    refine N_then ?_
    refine J_seq ?_
    refine J_seq ?_
    refine J_region ?_
    refine JL_q (wants_none rfl) rfl (ex_assign rfl) ?_
    refine JL_nil ?_
    refine N_then ?_
    refine J_loop' (S := (List (List Int)) × (List GRule) × Int) (G := Value × List Nat × Value) (F_spec_DecodeBinary_L1 p0) (fun s13 g14 => [(0, .pointer (some ⟨b8, 0, none⟩)), (1, .int .i64 2), (7, .int .i64 s13.2.2)]) (fun s13 g14 => [.rd v0_0 p0.Rules, .bx b1 28 [.int .i64 p0.Symbols, .int .i64 p0.States, v0_0], .od 35 g14.1 s13.1 g14.2.1, .ow 97 g14.2.2 s13.2.1, .bx b8 55 [.pointer (some ⟨b1, 0, none⟩), .pointer none, .int .i64 0, g14.1, .int .i64 2, .int .i64 0, g14.2.2], .rd v1_0 p1.Left, .rd v1_1 p1.Right, .bx b2 39 [.int .i64 p1.State, v1_0, v1_1], .bx b3 39 [.int .i64 0, .slice none 0 0, .slice none 0 0]]) (([([0, 0, 0, 0] : List Int)] : List (List Int)), ([] : List GRule), 0) ((.slice (some ⟨b11, 0, none⟩) 1 1), ((((.slice (some ⟨b9, 0, none⟩) 4 4) : Value).ownBlock.toList ++ []) ++ []), (.slice (some ⟨b12, 0, none⟩) 0 0)) ⟨rfl, rfl, rfl, trivial⟩ [10, 7, 1, 0, 4, 9, 8, 6, 5] rfl rfl (fun s13 g14 => ?_) (fun s13 g14 => ?_)
    · obtain ⟨g14_0, g14_1, g14_2⟩ := g14
      unfold F_spec_DecodeBinary_L1
      refine J_seq ?_
      refine J_seq ?_
      refine J_region ?_
      refine JL_q (wants_none rfl) rfl (ex_move rfl) ?_
      refine JL_q (wants_none rfl) rfl (ex_move rfl) ?_
      refine JL_q (wants_none rfl) rfl (ex_nilCheck rfl) ?_
      refine JL_q (wants_none rfl) rfl (ex_fieldAddr fi_55_3 rfl rfl) ?_
      refine JL_q (wants_none rfl) rfl (ex_load_bx 4 ti_53 rfl rfl rfl) ?_
      refine JL_q (wants_none rfl) rfl (ex_od 2 rfl (ex_len_ow 2 Try.underlying53 rfl rfl)) ?_
      refine JL_q (wants_none rfl) rfl (ex_lss rfl rfl) ?_
      refine JL_nil ?_
      refine N_then ?_
      refine J_if rfl (fun h15 => ?_) (fun h15 => ?_)
      · refine J_skip ?_
        refine N_then ?_
        refine J_seq ?_
        refine J_block ?_
        refine J_seq ?_
        refine J_region ?_
        refine JL_q (wants_none rfl) rfl (ex_assign rfl) ?_
        refine JL_nil ?_
        refine N_then ?_
        refine J_loop' (S := (List (List Int)) × (List GRule) × Int) (G := Value × List Nat × Value) (F_spec_DecodeBinary_L2 p0 s13) (fun s16 g17 => [(0, .pointer (some ⟨b8, 0, none⟩)), (1, .int .i64 2), (7, .int .i64 s13.2.2), (8, .int .i64 s16.2.2)]) (fun s16 g17 => [.rd v0_0 p0.Rules, .bx b1 28 [.int .i64 p0.Symbols, .int .i64 p0.States, v0_0], .od 35 g17.1 s16.1 g17.2.1, .ow 97 g17.2.2 s16.2.1, .bx b8 55 [.pointer (some ⟨b1, 0, none⟩), .pointer none, .int .i64 0, g17.1, .int .i64 2, .int .i64 0, g17.2.2], .rd v1_0 p1.Left, .rd v1_1 p1.Right, .bx b2 39 [.int .i64 p1.State, v1_0, v1_1], .bx b3 39 [.int .i64 0, .slice none 0 0, .slice none 0 0]]) (s13.1, s13.2.1, 0) (g14_0, g14_1, g14_2) ⟨rfl, rfl, rfl, rfl, trivial⟩ [0, 1, 2, 3, 4, 5, 6, 7, 8] rfl rfl (fun s16 g17 => ?_) (fun s16 g17 => ?_)
        · obtain ⟨g17_0, g17_1, g17_2⟩ := g17
          unfold F_spec_DecodeBinary_L2
          refine J_seq ?_
          refine J_seq ?_
          refine J_region ?_
          refine JL_q (wants_none rfl) rfl (ex_move rfl) ?_
          refine JL_q (wants_none rfl) rfl (ex_move rfl) ?_
          refine JL_q (wants_none rfl) rfl (ex_lss rfl rfl) ?_
          refine JL_nil ?_
          refine N_then ?_
          refine J_if rfl (fun h18 => ?_) (fun h18 => ?_)
          · refine J_skip ?_
            refine N_then ?_
            refine J_seq ?_
            refine J_block ?_
            refine J_seq ?_
            refine J_region ?_
            refine JL_q (wants_none rfl) rfl (ex_move rfl) ?_
            refine JL_q (wants_none rfl) rfl (ex_move rfl) ?_
            refine JL_q (wants_none rfl) rfl (ex_nilCheck rfl) ?_
            refine JL_q (wants_none rfl) rfl (ex_fieldAddr fi_55_3 rfl rfl) ?_
            refine JL_q (wants_none rfl) rfl (ex_load_bx 4 ti_53 rfl rfl rfl) ?_
            refine JL_q (wants_none rfl) rfl (ex_move rfl) ?_
            refine JL_bnd fun y19 hy20 => ?_
            refine JL_od_open (v := g17_0) 2 rfl hy20 ?_; rintro b21 cap22 rfl
            refine JL_q (wants_none rfl) rfl (ex_od 2 rfl (ex_index_ow 2 Try.underlying53 ti_35 rfl rfl rfl hy20)) ?_
            refine JL_st (wants_none rfl) rfl (st_od 2 rfl (st_load_ow_o 2 (opens_sl _) ti_35 rfl rfl hy20) (fun _ => rfl)) (fun v23 => ?_)
            refine JL_q (wants_none rfl) rfl (ex_move rfl) ?_
            refine JL_inline (wants_none rfl) rfl Try.call93 rfl Try.func93 rfl Try.ntmps93 rfl rfl (fun K_ hK24 => ?_)
            refine J_seq ?_
            refine J_region ?_
            refine JL_st (wants_none rfl) rfl (st_alloc zi_129 rfl) (fun b25 => ?_)
            refine JL_nil ?_
            refine N_then ?_
            refine J_seq ?_
            refine J_seq ?_
            refine J_region ?_
            refine JL_q (wants_none rfl) rfl (ex_move rfl) ?_
            refine JL_q (wants_none rfl) rfl (ex_nilCheck rfl) ?_
            refine JL_q (wants_none rfl) rfl (ex_fieldAddr fi_55_2 rfl rfl) ?_
            refine JL_q (wants_none rfl) rfl (ex_load_bx 6 ti_2 rfl rfl rfl) ?_
            refine JL_nil ?_
            refine N_then ?_
            refine J_block ?_
            refine J_seq ?_
            refine J_region ?_
            refine JL_q (wants_none rfl) rfl (ex_eql rfl rfl) ?_
            refine JL_q (wants_none rfl) rfl (ex_assign rfl) ?_
            refine JL_nil ?_
            refine N_then ?_
            refine J_if_false rfl (by decide) ?_
            refine J_seq ?_
            refine J_region ?_
            refine JL_q (wants_none rfl) rfl (ex_eql rfl rfl) ?_
            refine JL_q (wants_none rfl) rfl (ex_assign rfl) ?_
            refine JL_nil ?_
            refine N_then ?_
            refine J_if_false rfl (by decide) ?_
            refine J_skip ?_
            refine N_block ?_
            refine N_then ?_
            refine J_seq ?_
            refine J_region ?_
            refine JL_q (wants_none rfl) rfl (ex_move rfl) ?_
            refine JL_q (wants_none rfl) rfl (ex_nilCheck rfl) ?_
            refine JL_q (wants_none rfl) rfl (ex_fieldAddr fi_55_0 rfl rfl) ?_
            refine JL_q (wants_none rfl) rfl (ex_load_bx 6 ti_48 rfl rfl rfl) ?_
            refine JL_q (wants_none rfl) rfl (ex_move rfl) ?_
            refine JL_q (wants_none rfl) rfl (ex_move rfl) ?_
            refine JL_bnd fun r26 hr27 => ?_
            refine JL_call (wants_none rfl) rfl Try.call108 rfl (Ca_self (fun _ => rfl) fun w hh => c_spec_l13Binary _ w (fun _ hk => hk.elim) _ _ (hh.bx_pa 3 rfl (GMachine.rdmk (Rd.mk_int _ _ _) (Rd.mk_int _ _ _) (hh.rd0 2 rfl)) rfl) _ _ (hh.rd0 1 rfl) _ _ hr27) (fun x28 => ?_)
            obtain ⟨x28_0, x28_1⟩ := x28
            refine JL_ctx (fun w hh => hh.tkn_rd 0 rfl) ?_
            refine JL_sk (wants_none rfl) (sk_store_bx' 2 ti_129 rfl rfl (fun w hh => (cv_aggs ⟨cv_bool, cv_int, cv_int, (hh.cv 0 rfl), trivial⟩)) rfl rfl rfl rfl) ?_
            refine JL_nil ?_
            refine N_then ?_
            refine J_ret ?_
            refine N_inl1 hK24 rfl (rv_cell 2 rfl rfl ti_129 rfl) ?_
            refine JL_st (wants_none rfl) rfl (st_alloc zi_129 rfl) (fun b29 => ?_)
            refine JL_sk (wants_none rfl) (sk_store_bx' 0 ti_129 rfl rfl (fun w hh => (cv_aggs ⟨cv_bool, cv_int, cv_int, (hh.cv 1 rfl), trivial⟩)) rfl rfl rfl rfl) ?_
            refine JL_nil ?_
            refine N_then ?_
            refine J_seq ?_
            refine J_seq ?_
            refine J_region ?_
            refine JL_q (wants_none rfl) rfl (ex_fieldAddr fi_129_0 rfl rfl) ?_
            refine JL_q (wants_none rfl) rfl (ex_load_bx 0 ti_4 rfl rfl rfl) ?_
            refine JL_q (wants_none rfl) rfl (ex_not rfl) ?_
            refine JL_nil ?_
            refine N_then ?_
            refine J_if rfl (fun h30 => ?_) (fun h30 => ?_)
            · refine J_seq ?_
              refine J_cut' (S' := (List GRule)) (G' := Value) (fun s31 g32 => [(0, .pointer (some ⟨b8, 0, none⟩)), (1, .int .i64 2), (7, .int .i64 s13.2.2), (8, .int .i64 s16.2.2)]) (fun s31 g32 => [.rd v0_0 p0.Rules, .bx b1 28 [.int .i64 p0.Symbols, .int .i64 p0.States, v0_0], .od 35 (.slice (some ⟨b21, 0, none⟩) s16.1.length cap22) s16.1 g17_1, .ow 97 g32 s31, .bx b8 55 [.pointer (some ⟨b1, 0, none⟩), .pointer none, .int .i64 0, (.slice (some ⟨b21, 0, none⟩) s16.1.length cap22), .int .i64 2, .int .i64 0, g32], .rd v1_0 p1.Left, .rd v1_1 p1.Right, .bx b2 39 [.int .i64 p1.State, v1_0, v1_1], .bx b3 39 [.int .i64 0, .slice none 0 0, .slice none 0 0]]) ?_ (fun s31 g32 => ?_)
              · refine J_draw [8, 9] (by kernel_rfl) ?_
                refine JP_take (i := 0) [0, 1, 2, 3, 4, 5, 6, 7, 10, 11, 12, 13] [8, 9] rfl (by kernel_rfl) (by kernel_rfl) (by kernel_rfl) rfl rfl (wants_none rfl) rfl (ex_move rfl) ?_
                refine JP_take (i := 1) [0, 1, 2, 3, 4, 5, 6, 7, 10, 11, 12, 13] [8, 9] rfl (by kernel_rfl) (by kernel_rfl) (by kernel_rfl) rfl rfl (wants_none rfl) rfl (ex_move rfl) ?_
                refine JP_take (i := 2) [0, 1, 2, 3, 4, 5, 6, 7, 10, 11, 12, 13] [8, 9] rfl (by kernel_rfl) (by kernel_rfl) (by kernel_rfl) rfl rfl (wants_none rfl) rfl (ex_nilCheck rfl) ?_
                refine JP_take (i := 3) [0, 1, 2, 3, 4, 5, 6, 7, 10, 11, 12, 13] [8, 9] rfl (by kernel_rfl) (by kernel_rfl) (by kernel_rfl) rfl rfl (wants_none rfl) rfl (ex_fieldAddr fi_55_4 rfl rfl) ?_
                refine JP_take (i := 4) [0, 1, 2, 3, 4, 5, 6, 7, 10, 11, 12, 13] [8, 9] rfl (by kernel_rfl) (by kernel_rfl) (by kernel_rfl) rfl rfl (wants_none rfl) rfl (ex_fieldAddr fi_28_2 rfl rfl) ?_
                refine JP_go [0, 1, 2, 3, 4, 5, 6, 7, 10, 11, 12, 13] [8, 9] rfl rfl rfl (fun w34 h1_35 hp33 => ?_)
                refine JD_bnd fun r36 hr37 => ?_
                refine JD_two (i := 5) (j := 6) (by kernel_rfl) ?_ ?_
                · refine JO_q rfl (wants_none rfl) rfl (ex_load_bx 9 ti_26 rfl rfl rfl) ?_
                  refine JD_one (i := 6) (by kernel_rfl) ?_
                  refine JO_call rfl (wants_none rfl) rfl Try.call92 rfl (Ca_of0 fun w hh => c_spec_l05None _ w (fun _ hk => hk.elim)  _ hr37) (fun _ => ?_)
                  refine JD_one (i := 7) (by kernel_rfl) ?_
                  refine JO_st rfl (wants_none rfl) rfl (st_buildSlice (vs := [.agg #[.int .i64 r36.Write, .int .i64 r36.Move, .int .i64 r36.Next]]) ([r36] : List GRule) Try.underlying26 ti_97 zi_97 rfl rfl rfl (fun w hh => ⟨(GRule.rdmk (Rd.mk_int _ _ _) (Rd.mk_int _ _ _) (Rd.mk_int _ _ _)), trivial⟩)) (fun _ hk => nomatch hk) (fun b38 => ?_)
                  refine JD_bnd fun z39 hz40 => ?_
                  refine JD_one (i := 8) (by kernel_rfl) ?_
                  refine JO_st rfl (wants_none rfl) rfl (st_append 9 Try.underlying26 ti_97 zi_97 rfl bi_97 rfl rfl rfl rfl (fun w hh => hh.src_ow 0 rfl) hz40) (sub_ow 0 rfl) (fun v41 => ?_)
                  refine JD_take (i := 9) hp33 rfl (by kernel_rfl) (by kernel_rfl) (by kernel_rfl) (wants_none rfl) rfl (ex_nilCheck rfl) ?_
                  refine JD_take (i := 10) hp33 rfl (by kernel_rfl) (by kernel_rfl) (by kernel_rfl) (wants_none rfl) rfl (ex_fieldAddr fi_55_4 rfl rfl) ?_
                  refine JD_take (i := 11) hp33 rfl (by kernel_rfl) (by kernel_rfl) (by kernel_rfl) (wants_none rfl) rfl (ex_fieldAddr fi_28_2 rfl rfl) ?_
                  refine JD_one (i := 12) (by kernel_rfl) ?_
                  refine JO_sk rfl (wants_none rfl) (sk_store_bx' 10 ti_26 rfl rfl (fun w hh => (hh.cv_ow 9 rfl)) rfl rfl rfl rfl) (sub_bx 1 rfl) ?_
                  refine JD_done (by kernel_rfl) ?_
                  exact N_meet' v41 ⟨rfl, rfl, rfl, rfl, trivial⟩ [6, 7, 8, 9, 10, 11, 12, 13, 14] rfl rfl
                · refine JO_call rfl (wants_none rfl) rfl Try.call92 rfl (Ca_of0 fun w hh => c_spec_l05None _ w (fun _ hk => hk.elim)  _ hr37) (fun _ => ?_)
                  refine JD_two (i := 5) (j := 7) (by kernel_rfl) ?_ ?_
                  · refine JO_q rfl (wants_none rfl) rfl (ex_load_bx 9 ti_26 rfl rfl rfl) ?_
                    refine JD_one (i := 7) (by kernel_rfl) ?_
                    refine JO_st rfl (wants_none rfl) rfl (st_buildSlice (vs := [.agg #[.int .i64 r36.Write, .int .i64 r36.Move, .int .i64 r36.Next]]) ([r36] : List GRule) Try.underlying26 ti_97 zi_97 rfl rfl rfl (fun w hh => ⟨(GRule.rdmk (Rd.mk_int _ _ _) (Rd.mk_int _ _ _) (Rd.mk_int _ _ _)), trivial⟩)) (fun _ hk => nomatch hk) (fun b42 => ?_)
                    refine JD_bnd fun z43 hz44 => ?_
                    refine JD_one (i := 8) (by kernel_rfl) ?_
                    refine JO_st rfl (wants_none rfl) rfl (st_append 9 Try.underlying26 ti_97 zi_97 rfl bi_97 rfl rfl rfl rfl (fun w hh => hh.src_ow 0 rfl) hz44) (sub_ow 0 rfl) (fun v45 => ?_)
                    refine JD_take (i := 9) hp33 rfl (by kernel_rfl) (by kernel_rfl) (by kernel_rfl) (wants_none rfl) rfl (ex_nilCheck rfl) ?_
                    refine JD_take (i := 10) hp33 rfl (by kernel_rfl) (by kernel_rfl) (by kernel_rfl) (wants_none rfl) rfl (ex_fieldAddr fi_55_4 rfl rfl) ?_
                    refine JD_take (i := 11) hp33 rfl (by kernel_rfl) (by kernel_rfl) (by kernel_rfl) (wants_none rfl) rfl (ex_fieldAddr fi_28_2 rfl rfl) ?_
                    refine JD_one (i := 12) (by kernel_rfl) ?_
                    refine JO_sk rfl (wants_none rfl) (sk_store_bx' 10 ti_26 rfl rfl (fun w hh => (hh.cv_ow 9 rfl)) rfl rfl rfl rfl) (sub_bx 1 rfl) ?_
                    refine JD_done (by kernel_rfl) ?_
                    exact N_meet' v45 ⟨rfl, rfl, rfl, rfl, trivial⟩ [6, 7, 8, 9, 10, 11, 12, 13, 14] rfl rfl
                  · refine JO_st rfl (wants_none rfl) rfl (st_buildSlice (vs := [.agg #[.int .i64 r36.Write, .int .i64 r36.Move, .int .i64 r36.Next]]) ([r36] : List GRule) Try.underlying26 ti_97 zi_97 rfl rfl rfl (fun w hh => ⟨(GRule.rdmk (Rd.mk_int _ _ _) (Rd.mk_int _ _ _) (Rd.mk_int _ _ _)), trivial⟩)) (fun _ hk => nomatch hk) (fun b46 => ?_)
                    refine JD_one (i := 5) (by kernel_rfl) ?_
                    refine JO_q rfl (wants_none rfl) rfl (ex_load_bx 10 ti_26 rfl rfl rfl) ?_
                    refine JD_bnd fun z47 hz48 => ?_
                    refine JD_one (i := 8) (by kernel_rfl) ?_
                    refine JO_st rfl (wants_none rfl) rfl (st_append 9 Try.underlying26 ti_97 zi_97 rfl bi_97 rfl rfl rfl rfl (fun w hh => hh.src_ow 0 rfl) hz48) (sub_ow 0 rfl) (fun v49 => ?_)
                    refine JD_take (i := 9) hp33 rfl (by kernel_rfl) (by kernel_rfl) (by kernel_rfl) (wants_none rfl) rfl (ex_nilCheck rfl) ?_
                    refine JD_take (i := 10) hp33 rfl (by kernel_rfl) (by kernel_rfl) (by kernel_rfl) (wants_none rfl) rfl (ex_fieldAddr fi_55_4 rfl rfl) ?_
                    refine JD_take (i := 11) hp33 rfl (by kernel_rfl) (by kernel_rfl) (by kernel_rfl) (wants_none rfl) rfl (ex_fieldAddr fi_28_2 rfl rfl) ?_
                    refine JD_one (i := 12) (by kernel_rfl) ?_
                    refine JO_sk rfl (wants_none rfl) (sk_store_bx' 10 ti_26 rfl rfl (fun w hh => (hh.cv_ow 9 rfl)) rfl rfl rfl rfl) (sub_bx 1 rfl) ?_
                    refine JD_done (by kernel_rfl) ?_
                    exact N_meet' v49 ⟨rfl, rfl, rfl, rfl, trivial⟩ [6, 7, 8, 9, 10, 11, 12, 13, 14] rfl rfl
              · refine N_then ?_
                refine J_exit ?_
                refine N_then_exit ?_
                refine N_block_exit ?_
                refine N_then ?_
                refine J_region ?_
                refine JL_q (wants_none rfl) rfl (ex_move rfl) ?_
                refine JL_q (wants_none rfl) rfl (ex_add rfl rfl) ?_
                refine JL_q (wants_none rfl) rfl (ex_assign rfl) ?_
                refine JL_nil ?_
                exact N_next' ((.slice (some ⟨b21, 0, none⟩) s16.1.length cap22), g17_1, g32) ⟨rfl, rfl, rfl, rfl, trivial⟩ [0, 1, 2, 3, 4, 5, 6, 7, 8] rfl rfl
            · refine J_skip ?_
              refine N_then ?_
              refine J_seq ?_
              refine J_region ?_
              refine JL_q (wants_none rfl) rfl (ex_move rfl) ?_
              refine JL_q (wants_none rfl) rfl (ex_fieldAddr fi_129_3 rfl rfl) ?_
              refine JL_q (wants_none rfl) rfl (ex_load_bx 0 ti_35 rfl rfl rfl) ?_
              refine JL_inline (wants_none rfl) rfl Try.call43 rfl Try.func43 rfl Try.ntmps43 rfl rfl (fun K_ hK50 => ?_)
              refine J_seq ?_
              refine J_region ?_
              refine JL_q (wants_none rfl) rfl (ex_assign rfl) ?_
              refine JL_nil ?_
              refine N_then ?_
              refine J_seq ?_
              refine J_seq ?_
              refine J_region ?_
              refine JL_q (wants_none rfl) rfl (ex_assign rfl) ?_
              refine JL_nil ?_
              refine N_then ?_
              refine J_loop' (S := Int) (G := Unit) (F_spec_DecodeBinary_L3 s16 r26) (fun s51 _ => [(0, .pointer (some ⟨b8, 0, none⟩)), (1, x28_0), (5, .int .i64 s51)]) (fun s51 _ => [.rd v0_0 p0.Rules, .bx b1 28 [.int .i64 p0.Symbols, .int .i64 p0.States, v0_0], .od 35 (.slice (some ⟨b21, 0, none⟩) s16.1.length cap22) s16.1 g17_1, .ow 97 g17_2 s16.2.1, .bx b8 55 [.pointer (some ⟨b1, 0, none⟩), .pointer none, .int .i64 0, (.slice (some ⟨b21, 0, none⟩) s16.1.length cap22), .int .i64 2, .int .i64 0, g17_2], .rd x28_0 r26.next, .tkn x28_0 r26.next x28_1, .rd v1_0 p1.Left, .rd v1_1 p1.Right, .bx b2 39 [.int .i64 p1.State, v1_0, v1_1], .bx b3 39 [.int .i64 0, .slice none 0 0, .slice none 0 0], .bx b29 129 [.bool r26.ok, .int .i64 r26.write, .int .i64 r26.move, x28_0]]) 0 () ⟨rfl, rfl, rfl, trivial⟩ [5, 6, 7, 8, 9, 1, 2, 10, 11, 12, 13, 0] rfl rfl (fun s51 g52 => ?_) (fun s51 g52 => ?_)
              · unfold F_spec_DecodeBinary_L3
                refine J_seq ?_
                refine J_seq ?_
                refine J_region ?_
                refine JL_q (wants_none rfl) rfl (ex_move rfl) ?_
                refine JL_q (wants_none rfl) rfl (ex_move rfl) ?_
                refine JL_q (wants_none rfl) rfl (ex_nilCheck rfl) ?_
                refine JL_q (wants_none rfl) rfl (ex_fieldAddr fi_55_3 rfl rfl) ?_
                refine JL_q (wants_none rfl) rfl (ex_load_bx 4 ti_53 rfl rfl rfl) ?_
                refine JL_q (wants_none rfl) rfl (ex_od 2 rfl (ex_len_ow 2 Try.underlying53 rfl rfl)) ?_
                refine JL_q (wants_none rfl) rfl (ex_lss rfl rfl) ?_
                refine JL_nil ?_
                refine N_then ?_
                refine J_if rfl (fun h53 => ?_) (fun h53 => ?_)
                · refine J_skip ?_
                  refine N_then ?_
                  refine J_seq ?_
                  refine J_block ?_
                  refine J_seq ?_
                  refine J_region ?_
                  refine JL_q (wants_none rfl) rfl (ex_move rfl) ?_
                  refine JL_q (wants_none rfl) rfl (ex_nilCheck rfl) ?_
                  refine JL_q (wants_none rfl) rfl (ex_fieldAddr fi_55_3 rfl rfl) ?_
                  refine JL_q (wants_none rfl) rfl (ex_load_bx 4 ti_53 rfl rfl rfl) ?_
                  refine JL_q (wants_none rfl) rfl (ex_move rfl) ?_
                  refine JL_bnd fun y54 hy55 => ?_
                  refine JL_q (wants_none rfl) rfl (ex_od 2 rfl (ex_index_ow 2 Try.underlying53 ti_35 rfl rfl rfl hy55)) ?_
                  refine JL_st (wants_none rfl) rfl (st_od 2 rfl (st_load_ow_o 2 (opens_sl _) ti_35 rfl rfl hy55) (fun _ => rfl)) (fun v56 => ?_)
                  refine JL_q (wants_none rfl) rfl (ex_move rfl) ?_
                  refine JL_bnd fun r57 hr58 => ?_
                  refine JL_call (wants_none rfl) rfl Try.call83 rfl (Ca_of0 fun w hh => c_spec_l00Same _ w (fun _ hk => hk.elim) _ _ (hh.rd0 0 rfl) _ _ (hh.rd0 6 rfl) _ hr58) (fun _ => ?_)
                  refine JL_nil ?_
                  refine N_then ?_
                  refine J_if rfl (fun h59 => ?_) (fun h59 => ?_)
                  · refine J_seq ?_
                    refine J_region ?_
                    refine JL_q (wants_none rfl) rfl (ex_move rfl) ?_
                    refine JL_q (wants_none rfl) rfl (ex_assign rfl) ?_
                    refine JL_nil ?_
                    refine N_then ?_
                    refine J_ret ?_
                    refine N_block_ret ?_
                    refine N_then_ret ?_
                    refine N_round_reti ?_
                    refine N_then_ret ?_
                    refine N_inl1 hK50 rfl (rv_tmp rfl) ?_
                    refine JL_q (wants_none rfl) rfl (ex_assign rfl) ?_
                    refine JL_nil ?_
                    refine N_then ?_
                    refine J_seq ?_
                    refine J_cut' (S' := (List (List Int)) × Int) (G' := Value × List Nat) (fun s60 g61 => [(0, .pointer (some ⟨b8, 0, none⟩)), (1, .int .i64 2), (7, .int .i64 s13.2.2), (8, .int .i64 s16.2.2), (9, .pointer (some ⟨b29, 0, none⟩)), (10, .int .i64 s60.2)]) (fun s60 g61 => [.rd v0_0 p0.Rules, .bx b1 28 [.int .i64 p0.Symbols, .int .i64 p0.States, v0_0], .od 35 g61.1 s60.1 g61.2, .ow 97 g17_2 s16.2.1, .bx b8 55 [.pointer (some ⟨b1, 0, none⟩), .pointer none, .int .i64 0, g61.1, .int .i64 2, .int .i64 0, g17_2], .rd x28_0 r26.next, .bx b29 129 [.bool r26.ok, .int .i64 r26.write, .int .i64 r26.move, x28_0], .rd v1_0 p1.Left, .rd v1_1 p1.Right, .bx b2 39 [.int .i64 p1.State, v1_0, v1_1], .bx b3 39 [.int .i64 0, .slice none 0 0, .slice none 0 0]]) ?_ (fun s60 g61 => ?_)
                    · refine J_seq ?_
                      refine J_region ?_
                      refine JL_q (wants_none rfl) rfl (ex_move rfl) ?_
                      refine JL_q (wants_none rfl) rfl (ex_lss rfl rfl) ?_
                      refine JL_nil ?_
                      refine N_then ?_
                      refine J_if rfl (fun h62 => ?_) (fun h62 => ?_)
                      · refine J_seq ?_
                        refine J_seq ?_
                        refine J_region ?_
                        refine JL_q (wants_none rfl) rfl (ex_move rfl) ?_
                        refine JL_q (wants_none rfl) rfl (ex_nilCheck rfl) ?_
                        refine JL_q (wants_none rfl) rfl (ex_fieldAddr fi_55_3 rfl rfl) ?_
                        refine JL_q (wants_none rfl) rfl (ex_load_bx 5 ti_53 rfl rfl rfl) ?_
                        refine JL_q (wants_none rfl) rfl (ex_od 3 rfl (ex_len_ow 3 Try.underlying53 rfl rfl)) ?_
                        refine JL_q (wants_none rfl) rfl (ex_eql rfl rfl) ?_
                        refine JL_nil ?_
                        refine N_then ?_
                        refine J_if rfl (fun h63 => ?_) (fun h63 => ?_)
                        · refine J_seq ?_
                          refine J_region ?_
                          refine JL_q (wants_none rfl) rfl (ex_assign rfl) ?_
                          refine JL_nil ?_
                          refine N_then ?_
                          refine J_ret ?_
                          refine N_then_ret ?_
                          refine N_mid_ret ?_
                          refine N_then_ret ?_
                          refine N_block_ret ?_
                          refine N_then_ret ?_
                          refine N_round_ret ?_
                          refine N_block_ret ?_
                          refine N_then_ret ?_
                          refine N_round_reti ?_
                          refine N_then_ret ?_
                          refine N_inl1 hK10 rfl (rv_tmp rfl) ?_
                          refine JL_q (wants_none rfl) rfl (ex_assign rfl) ?_
                          refine JL_nil ?_
                          refine N_then ?_
                          refine J_seq ?_
                          refine J_region ?_
                          refine JL_q (wants_none rfl) rfl (ex_move rfl) ?_
                          refine JL_q (wants_none rfl) rfl (ex_move rfl) ?_
                          refine JL_q (wants_none rfl) rfl (ex_assign rfl) ?_
                          refine JL_q (wants_none rfl) rfl (ex_assign rfl) ?_
                          refine JL_nil ?_
                          refine N_then ?_
                          refine J_ret ?_
                          refine N_inl2 hK7 rfl (rv_tmp rfl) (rv_tmp rfl) ?_
                          refine JL_q (wants_none rfl) rfl (ex_move rfl) ?_
                          refine JL_q (wants_none rfl) rfl (ex_extract rfl rfl) ?_
                          refine JL_q (wants_none rfl) rfl (ex_extract rfl rfl) ?_
                          refine JL_q (wants_none rfl) rfl (ex_assign rfl) ?_
                          refine JL_q (wants_none rfl) rfl (ex_assign rfl) ?_
                          refine JL_nil ?_
                          refine N_then ?_
                          refine J_seq ?_
                          refine J_seq ?_
                          refine J_region ?_
                          refine JL_q (wants_none rfl) rfl (ex_move rfl) ?_
                          refine JL_q (wants_none rfl) rfl (ex_not rfl) ?_
                          refine JL_nil ?_
                          refine N_then ?_
                          refine J_if_true rfl (by rw [show (false) = false from rfl]; rfl) ?_
                          refine J_seq ?_
                          refine J_region ?_
                          refine JL_q (wants_none rfl) rfl (ex_build si_39 rfl .nil (fun w hh => trivial)) ?_
                          refine JL_sk (wants_none rfl) (sk_store_bx' 11 ti_39 rfl rfl (fun w hh => (cv_aggs ⟨cv_int, cv_slice, cv_slice, trivial⟩)) rfl rfl rfl rfl) ?_
                          refine JL_q (wants_none rfl) rfl (ex_assign rfl) ?_
                          refine JL_nil ?_
                          refine N_then ?_
                          refine J_ret ?_
                          refine N_then_ret ?_
                          refine N_ctx (fun w hh => SH.ow_nil (α := Int) 2 hh) ?_
                          refine N_ctx (fun w hh => SH.ow_nil (α := Int) 2 hh) ?_
                          exact N_ret2 rfl (rv_cell 13 rfl rfl ti_39 rfl) (rv_tmp rfl) (fun w hh => ⟨((.slice none 0 0 : Value), (.slice none 0 0 : Value)), rfl, hh.sel [1, 0] rfl⟩)
                        · refine J_skip ?_
                          refine N_then ?_
                          refine J_seq ?_
                          refine J_region ?_
                          refine JL_q (wants_none rfl) rfl (ex_move rfl) ?_
                          refine JL_q (wants_none rfl) rfl (ex_nilCheck rfl) ?_
                          refine JL_q (wants_none rfl) rfl (ex_fieldAddr fi_55_3 rfl rfl) ?_
                          refine JL_q (wants_none rfl) rfl (ex_load_bx 5 ti_53 rfl rfl rfl) ?_
                          refine JL_q (wants_none rfl) rfl (ex_od 3 rfl (ex_len_ow 3 Try.underlying53 rfl rfl)) ?_
                          refine JL_q (wants_none rfl) rfl (ex_assign rfl) ?_
                          refine JL_nil ?_
                          refine N_then ?_
                          refine J_draw [3, 5] (by kernel_rfl) ?_
                          refine JP_take (i := 0) [0, 1, 2, 4, 6, 7, 8, 9, 10, 11, 12] [3, 5] rfl (by kernel_rfl) (by kernel_rfl) (by kernel_rfl) rfl rfl (wants_none rfl) rfl (ex_move rfl) ?_
                          refine JP_take (i := 1) [0, 1, 2, 4, 6, 7, 8, 9, 10, 11, 12] [3, 5] rfl (by kernel_rfl) (by kernel_rfl) (by kernel_rfl) rfl rfl (wants_none rfl) rfl (ex_move rfl) ?_
                          refine JP_take (i := 2) [0, 1, 2, 4, 6, 7, 8, 9, 10, 11, 12] [3, 5] rfl (by kernel_rfl) (by kernel_rfl) (by kernel_rfl) rfl rfl (wants_none rfl) rfl (ex_nilCheck rfl) ?_
                          refine JP_take (i := 3) [0, 1, 2, 4, 6, 7, 8, 9, 10, 11, 12] [3, 5] rfl (by kernel_rfl) (by kernel_rfl) (by kernel_rfl) rfl rfl (wants_none rfl) rfl (ex_fieldAddr fi_55_3 rfl rfl) ?_
                          refine JP_take (i := 5) [0, 1, 2, 4, 6, 7, 8, 9, 10, 11, 12] [3, 5] rfl (by kernel_rfl) (by kernel_rfl) (by kernel_rfl) rfl rfl (wants_none rfl) rfl (ex_fieldAddr fi_129_3 rfl rfl) ?_
                          refine JP_take (i := 6) [0, 1, 2, 4, 6, 7, 8, 9, 10, 11, 12] [3, 5] rfl (by kernel_rfl) (by kernel_rfl) (by kernel_rfl) rfl rfl (wants_none rfl) rfl (ex_load_bx 10 ti_35 rfl rfl rfl) ?_
                          refine JP_go [0, 1, 2, 4, 6, 7, 8, 9, 10, 11, 12] [3, 5] rfl rfl rfl (fun w65 h1_66 hp64 => ?_)
                          refine JD_two (i := 4) (j := 7) (by kernel_rfl) ?_ ?_
                          · refine JO_q rfl (wants_none rfl) rfl (ex_load_bx 5 ti_53 rfl rfl rfl) ?_
                            refine JD_one (i := 7) (by kernel_rfl) ?_
                            refine JO_st rfl (wants_none rfl) rfl (st_buildSlice_od (vs := [x28_0]) (B := (x28_1 ++ [])) ([r26.next] : List (List Int)) [7] Try.underlying53 ti_35 zi_35 rfl rfl rfl rfl rfl (fun w hh => (dwv_cons (hh.dw 7 rfl) dwv_nil))) (fun _ hk => nomatch hk) (fun b67 => ?_)
                            refine JD_bnd fun z68 hz69 => ?_
                            refine JD_one (i := 8) (by kernel_rfl) ?_
                            refine JO_st rfl (wants_none rfl) rfl (st_append_od 4 0 Try.underlying53 ti_35 zi_35 rfl bi_35 rfl rfl rfl rfl rfl rfl hz69) (sub_od 0 rfl) (fun v70 => ?_)
                            refine JD_take (i := 9) hp64 rfl (by kernel_rfl) (by kernel_rfl) (by kernel_rfl) (wants_none rfl) rfl (ex_nilCheck rfl) ?_
                            refine JD_take (i := 10) hp64 rfl (by kernel_rfl) (by kernel_rfl) (by kernel_rfl) (wants_none rfl) rfl (ex_fieldAddr fi_55_3 rfl rfl) ?_
                            refine JD_one (i := 11) (by kernel_rfl) ?_
                            refine JO_sk rfl (wants_none rfl) (sk_store_bx' 6 ti_53 rfl rfl (fun w hh => (hh.cv_od 4 rfl)) rfl rfl rfl rfl) (sub_bx 1 rfl) ?_
                            refine JD_done (by kernel_rfl) ?_
                            exact N_meet' (v70, (g17_1 ++ (x28_1 ++ []))) ⟨rfl, rfl, rfl, rfl, rfl, rfl, trivial⟩ [2, 3, 4, 5, 6, 7, 13, 9, 10, 11, 12] rfl rfl
                          · refine JO_st rfl (wants_none rfl) rfl (st_buildSlice_od (vs := [x28_0]) (B := (x28_1 ++ [])) ([r26.next] : List (List Int)) [7] Try.underlying53 ti_35 zi_35 rfl rfl rfl rfl rfl (fun w hh => (dwv_cons (hh.dw 7 rfl) dwv_nil))) (fun _ hk => nomatch hk) (fun b71 => ?_)
                            refine JD_one (i := 4) (by kernel_rfl) ?_
                            refine JO_q rfl (wants_none rfl) rfl (ex_load_bx 6 ti_53 rfl rfl rfl) ?_
                            refine JD_bnd fun z72 hz73 => ?_
                            refine JD_one (i := 8) (by kernel_rfl) ?_
                            refine JO_st rfl (wants_none rfl) rfl (st_append_od 4 0 Try.underlying53 ti_35 zi_35 rfl bi_35 rfl rfl rfl rfl rfl rfl hz73) (sub_od 0 rfl) (fun v74 => ?_)
                            refine JD_take (i := 9) hp64 rfl (by kernel_rfl) (by kernel_rfl) (by kernel_rfl) (wants_none rfl) rfl (ex_nilCheck rfl) ?_
                            refine JD_take (i := 10) hp64 rfl (by kernel_rfl) (by kernel_rfl) (by kernel_rfl) (wants_none rfl) rfl (ex_fieldAddr fi_55_3 rfl rfl) ?_
                            refine JD_one (i := 11) (by kernel_rfl) ?_
                            refine JO_sk rfl (wants_none rfl) (sk_store_bx' 6 ti_53 rfl rfl (fun w hh => (hh.cv_od 4 rfl)) rfl rfl rfl rfl) (sub_bx 1 rfl) ?_
                            refine JD_done (by kernel_rfl) ?_
                            exact N_meet' (v74, (g17_1 ++ (x28_1 ++ []))) ⟨rfl, rfl, rfl, rfl, rfl, rfl, trivial⟩ [2, 3, 4, 5, 6, 7, 13, 9, 10, 11, 12] rfl rfl
                      · refine J_skip ?_
                        exact N_meet' ((.slice (some ⟨b21, 0, none⟩) s16.1.length cap22), g17_1) ⟨rfl, rfl, rfl, rfl, rfl, rfl, trivial⟩ [1, 2, 3, 4, 5, 6, 12, 8, 9, 10, 11] rfl rfl
                    · obtain ⟨g61_0, g61_1⟩ := g61
                      refine N_then ?_
                      refine J_draw [3, 4] (by kernel_rfl) ?_
                      refine JP_take (i := 0) [0, 1, 2, 5, 6, 7, 8, 9, 10] [3, 4] rfl (by kernel_rfl) (by kernel_rfl) (by kernel_rfl) rfl rfl (wants_none rfl) rfl (ex_move rfl) ?_
                      refine JP_take (i := 1) [0, 1, 2, 5, 6, 7, 8, 9, 10] [3, 4] rfl (by kernel_rfl) (by kernel_rfl) (by kernel_rfl) rfl rfl (wants_none rfl) rfl (ex_move rfl) ?_
                      refine JP_take (i := 2) [0, 1, 2, 5, 6, 7, 8, 9, 10] [3, 4] rfl (by kernel_rfl) (by kernel_rfl) (by kernel_rfl) rfl rfl (wants_none rfl) rfl (ex_nilCheck rfl) ?_
                      refine JP_take (i := 3) [0, 1, 2, 5, 6, 7, 8, 9, 10] [3, 4] rfl (by kernel_rfl) (by kernel_rfl) (by kernel_rfl) rfl rfl (wants_none rfl) rfl (ex_fieldAddr fi_55_4 rfl rfl) ?_
                      refine JP_take (i := 4) [0, 1, 2, 5, 6, 7, 8, 9, 10] [3, 4] rfl (by kernel_rfl) (by kernel_rfl) (by kernel_rfl) rfl rfl (wants_none rfl) rfl (ex_fieldAddr fi_28_2 rfl rfl) ?_
                      refine JP_take (i := 6) [0, 1, 2, 5, 6, 7, 8, 9, 10] [3, 4] rfl (by kernel_rfl) (by kernel_rfl) (by kernel_rfl) rfl rfl (wants_none rfl) rfl (ex_fieldAddr fi_129_1 rfl rfl) ?_
                      refine JP_take (i := 7) [0, 1, 2, 5, 6, 7, 8, 9, 10] [3, 4] rfl (by kernel_rfl) (by kernel_rfl) (by kernel_rfl) rfl rfl (wants_none rfl) rfl (ex_load_bx 4 ti_2 rfl rfl rfl) ?_
                      refine JP_take (i := 8) [0, 1, 2, 5, 6, 7, 8, 9, 10] [3, 4] rfl (by kernel_rfl) (by kernel_rfl) (by kernel_rfl) rfl rfl (wants_none rfl) rfl (ex_fieldAddr fi_129_2 rfl rfl) ?_
                      refine JP_take (i := 9) [0, 1, 2, 5, 6, 7, 8, 9, 10] [3, 4] rfl (by kernel_rfl) (by kernel_rfl) (by kernel_rfl) rfl rfl (wants_none rfl) rfl (ex_load_bx 4 ti_2 rfl rfl rfl) ?_
                      refine JP_take (i := 10) [0, 1, 2, 5, 6, 7, 8, 9, 10] [3, 4] rfl (by kernel_rfl) (by kernel_rfl) (by kernel_rfl) rfl rfl (wants_none rfl) rfl (ex_move rfl) ?_
                      refine JP_take (i := 11) [0, 1, 2, 5, 6, 7, 8, 9, 10] [3, 4] rfl (by kernel_rfl) (by kernel_rfl) (by kernel_rfl) rfl rfl (wants_none rfl) rfl (ex_build si_97 rfl (.cons fi_97_0 rfl rfl (.cons fi_97_1 rfl rfl (.cons fi_97_2 rfl rfl .nil))) (fun w hh => ⟨cv_int, cv_int, cv_int, trivial⟩)) ?_
                      refine JP_go [0, 1, 2, 5, 6, 7, 8, 9, 10] [3, 4] rfl rfl rfl (fun w76 h1_77 hp75 => ?_)
                      refine JD_two (i := 5) (j := 12) (by kernel_rfl) ?_ ?_
                      · refine JO_q rfl (wants_none rfl) rfl (ex_load_bx 4 ti_26 rfl rfl rfl) ?_
                        refine JD_one (i := 12) (by kernel_rfl) ?_
                        refine JO_st rfl (wants_none rfl) rfl (st_buildSlice (vs := [.agg #[.int .i64 r26.write, .int .i64 r26.move, .int .i64 s60.2]]) ([(⟨r26.write, r26.move, s60.2⟩ : GRule)] : List GRule) Try.underlying26 ti_97 zi_97 rfl rfl rfl (fun w hh => ⟨(GRule.rdmk (Rd.mk_int _ _ _) (Rd.mk_int _ _ _) (Rd.mk_int _ _ _)), trivial⟩)) (fun _ hk => nomatch hk) (fun b78 => ?_)
                        refine JD_bnd fun z79 hz80 => ?_
                        refine JD_one (i := 13) (by kernel_rfl) ?_
                        refine JO_st rfl (wants_none rfl) rfl (st_append 4 Try.underlying26 ti_97 zi_97 rfl bi_97 rfl rfl rfl rfl (fun w hh => hh.src_ow 0 rfl) hz80) (sub_ow 0 rfl) (fun v81 => ?_)
                        refine JD_take (i := 14) hp75 rfl (by kernel_rfl) (by kernel_rfl) (by kernel_rfl) (wants_none rfl) rfl (ex_nilCheck rfl) ?_
                        refine JD_take (i := 15) hp75 rfl (by kernel_rfl) (by kernel_rfl) (by kernel_rfl) (wants_none rfl) rfl (ex_fieldAddr fi_55_4 rfl rfl) ?_
                        refine JD_take (i := 16) hp75 rfl (by kernel_rfl) (by kernel_rfl) (by kernel_rfl) (wants_none rfl) rfl (ex_fieldAddr fi_28_2 rfl rfl) ?_
                        refine JD_one (i := 17) (by kernel_rfl) ?_
                        refine JO_sk rfl (wants_none rfl) (sk_store_bx' 5 ti_26 rfl rfl (fun w hh => (hh.cv_ow 4 rfl)) rfl rfl rfl rfl) (sub_bx 1 rfl) ?_
                        refine JD_done (by kernel_rfl) ?_
                        refine N_block ?_
                        refine N_then ?_
                        refine J_region ?_
                        refine JL_q (wants_none rfl) rfl (ex_move rfl) ?_
                        refine JL_q (wants_none rfl) rfl (ex_add rfl rfl) ?_
                        refine JL_q (wants_none rfl) rfl (ex_assign rfl) ?_
                        refine JL_nil ?_
                        exact N_next' (g61_0, g61_1, v81) ⟨rfl, rfl, rfl, rfl, trivial⟩ [1, 2, 3, 4, 5, 8, 9, 10, 11] rfl rfl
                      · refine JO_st rfl (wants_none rfl) rfl (st_buildSlice (vs := [.agg #[.int .i64 r26.write, .int .i64 r26.move, .int .i64 s60.2]]) ([(⟨r26.write, r26.move, s60.2⟩ : GRule)] : List GRule) Try.underlying26 ti_97 zi_97 rfl rfl rfl (fun w hh => ⟨(GRule.rdmk (Rd.mk_int _ _ _) (Rd.mk_int _ _ _) (Rd.mk_int _ _ _)), trivial⟩)) (fun _ hk => nomatch hk) (fun b82 => ?_)
                        refine JD_one (i := 5) (by kernel_rfl) ?_
                        refine JO_q rfl (wants_none rfl) rfl (ex_load_bx 5 ti_26 rfl rfl rfl) ?_
                        refine JD_bnd fun z83 hz84 => ?_
                        refine JD_one (i := 13) (by kernel_rfl) ?_
                        refine JO_st rfl (wants_none rfl) rfl (st_append 4 Try.underlying26 ti_97 zi_97 rfl bi_97 rfl rfl rfl rfl (fun w hh => hh.src_ow 0 rfl) hz84) (sub_ow 0 rfl) (fun v85 => ?_)
                        refine JD_take (i := 14) hp75 rfl (by kernel_rfl) (by kernel_rfl) (by kernel_rfl) (wants_none rfl) rfl (ex_nilCheck rfl) ?_
                        refine JD_take (i := 15) hp75 rfl (by kernel_rfl) (by kernel_rfl) (by kernel_rfl) (wants_none rfl) rfl (ex_fieldAddr fi_55_4 rfl rfl) ?_
                        refine JD_take (i := 16) hp75 rfl (by kernel_rfl) (by kernel_rfl) (by kernel_rfl) (wants_none rfl) rfl (ex_fieldAddr fi_28_2 rfl rfl) ?_
                        refine JD_one (i := 17) (by kernel_rfl) ?_
                        refine JO_sk rfl (wants_none rfl) (sk_store_bx' 5 ti_26 rfl rfl (fun w hh => (hh.cv_ow 4 rfl)) rfl rfl rfl rfl) (sub_bx 1 rfl) ?_
                        refine JD_done (by kernel_rfl) ?_
                        refine N_block ?_
                        refine N_then ?_
                        refine J_region ?_
                        refine JL_q (wants_none rfl) rfl (ex_move rfl) ?_
                        refine JL_q (wants_none rfl) rfl (ex_add rfl rfl) ?_
                        refine JL_q (wants_none rfl) rfl (ex_assign rfl) ?_
                        refine JL_nil ?_
                        exact N_next' (g61_0, g61_1, v85) ⟨rfl, rfl, rfl, rfl, trivial⟩ [1, 2, 3, 4, 5, 8, 9, 10, 11] rfl rfl
                  · refine J_skip ?_
                    refine N_block ?_
                    refine N_then ?_
                    refine J_region ?_
                    refine JL_q (wants_none rfl) rfl (ex_move rfl) ?_
                    refine JL_q (wants_none rfl) rfl (ex_add rfl rfl) ?_
                    refine JL_q (wants_none rfl) rfl (ex_assign rfl) ?_
                    refine JL_nil ?_
                    exact N_next' () ⟨rfl, rfl, rfl, trivial⟩ [1, 2, 3, 4, 5, 6, 7, 8, 9, 10, 11, 12] rfl rfl
                · refine J_exit ?_
                  refine N_then_exit ?_
                  exact N_break' () ⟨rfl, rfl, rfl, trivial⟩ [0, 1, 2, 3, 4, 5, 6, 7, 8, 9, 10, 11] rfl rfl
              · refine N_then ?_
                refine J_seq ?_
                refine J_region ?_
                refine JL_q (wants_none rfl) rfl (ex_assign rfl) ?_
                refine JL_nil ?_
                refine N_then ?_
                refine J_ret ?_
                refine N_inl1 hK50 rfl (rv_tmp rfl) ?_
                refine JL_q (wants_none rfl) rfl (ex_assign rfl) ?_
                refine JL_nil ?_
                refine N_then ?_
                refine J_seq ?_
                refine J_cut' (S' := (List (List Int)) × Int) (G' := Value × List Nat) (fun s86 g87 => [(0, .pointer (some ⟨b8, 0, none⟩)), (1, .int .i64 2), (7, .int .i64 s13.2.2), (8, .int .i64 s16.2.2), (9, .pointer (some ⟨b29, 0, none⟩)), (10, .int .i64 s86.2)]) (fun s86 g87 => [.rd v0_0 p0.Rules, .bx b1 28 [.int .i64 p0.Symbols, .int .i64 p0.States, v0_0], .od 35 g87.1 s86.1 g87.2, .ow 97 g17_2 s16.2.1, .bx b8 55 [.pointer (some ⟨b1, 0, none⟩), .pointer none, .int .i64 0, g87.1, .int .i64 2, .int .i64 0, g17_2], .rd x28_0 r26.next, .bx b29 129 [.bool r26.ok, .int .i64 r26.write, .int .i64 r26.move, x28_0], .rd v1_0 p1.Left, .rd v1_1 p1.Right, .bx b2 39 [.int .i64 p1.State, v1_0, v1_1], .bx b3 39 [.int .i64 0, .slice none 0 0, .slice none 0 0]]) ?_ (fun s86 g87 => ?_)
                · refine J_seq ?_
                  refine J_region ?_
                  refine JL_q (wants_none rfl) rfl (ex_move rfl) ?_
                  refine JL_q (wants_none rfl) rfl (ex_lss rfl rfl) ?_
                  refine JL_nil ?_
                  refine N_then ?_
                  refine J_if_true rfl (by decide) ?_
                  refine J_seq ?_
                  refine J_seq ?_
                  refine J_region ?_
                  refine JL_q (wants_none rfl) rfl (ex_move rfl) ?_
                  refine JL_q (wants_none rfl) rfl (ex_nilCheck rfl) ?_
                  refine JL_q (wants_none rfl) rfl (ex_fieldAddr fi_55_3 rfl rfl) ?_
                  refine JL_q (wants_none rfl) rfl (ex_load_bx 4 ti_53 rfl rfl rfl) ?_
                  refine JL_q (wants_none rfl) rfl (ex_od 2 rfl (ex_len_ow 2 Try.underlying53 rfl rfl)) ?_
                  refine JL_q (wants_none rfl) rfl (ex_eql rfl rfl) ?_
                  refine JL_nil ?_
                  refine N_then ?_
                  refine J_if rfl (fun h88 => ?_) (fun h88 => ?_)
                  · refine J_seq ?_
                    refine J_region ?_
                    refine JL_q (wants_none rfl) rfl (ex_assign rfl) ?_
                    refine JL_nil ?_
                    refine N_then ?_
                    refine J_ret ?_
                    refine N_then_ret ?_
                    refine N_mid_ret ?_
                    refine N_then_ret ?_
                    refine N_block_ret ?_
                    refine N_then_ret ?_
                    refine N_round_ret ?_
                    refine N_block_ret ?_
                    refine N_then_ret ?_
                    refine N_round_reti ?_
                    refine N_then_ret ?_
                    refine N_inl1 hK10 rfl (rv_tmp rfl) ?_
                    refine JL_q (wants_none rfl) rfl (ex_assign rfl) ?_
                    refine JL_nil ?_
                    refine N_then ?_
                    refine J_seq ?_
                    refine J_region ?_
                    refine JL_q (wants_none rfl) rfl (ex_move rfl) ?_
                    refine JL_q (wants_none rfl) rfl (ex_move rfl) ?_
                    refine JL_q (wants_none rfl) rfl (ex_assign rfl) ?_
                    refine JL_q (wants_none rfl) rfl (ex_assign rfl) ?_
                    refine JL_nil ?_
                    refine N_then ?_
                    refine J_ret ?_
                    refine N_inl2 hK7 rfl (rv_tmp rfl) (rv_tmp rfl) ?_
                    refine JL_q (wants_none rfl) rfl (ex_move rfl) ?_
                    refine JL_q (wants_none rfl) rfl (ex_extract rfl rfl) ?_
                    refine JL_q (wants_none rfl) rfl (ex_extract rfl rfl) ?_
                    refine JL_q (wants_none rfl) rfl (ex_assign rfl) ?_
                    refine JL_q (wants_none rfl) rfl (ex_assign rfl) ?_
                    refine JL_nil ?_
                    refine N_then ?_
                    refine J_seq ?_
                    refine J_seq ?_
                    refine J_region ?_
                    refine JL_q (wants_none rfl) rfl (ex_move rfl) ?_
                    refine JL_q (wants_none rfl) rfl (ex_not rfl) ?_
                    refine JL_nil ?_
                    refine N_then ?_
                    refine J_if_true rfl (by rw [show (false) = false from rfl]; rfl) ?_
                    refine J_seq ?_
                    refine J_region ?_
                    refine JL_q (wants_none rfl) rfl (ex_build si_39 rfl .nil (fun w hh => trivial)) ?_
                    refine JL_sk (wants_none rfl) (sk_store_bx' 10 ti_39 rfl rfl (fun w hh => (cv_aggs ⟨cv_int, cv_slice, cv_slice, trivial⟩)) rfl rfl rfl rfl) ?_
                    refine JL_q (wants_none rfl) rfl (ex_assign rfl) ?_
                    refine JL_nil ?_
                    refine N_then ?_
                    refine J_ret ?_
                    refine N_then_ret ?_
                    refine N_ctx (fun w hh => SH.ow_nil (α := Int) 2 hh) ?_
                    refine N_ctx (fun w hh => SH.ow_nil (α := Int) 2 hh) ?_
                    exact N_ret2 rfl (rv_cell 12 rfl rfl ti_39 rfl) (rv_tmp rfl) (fun w hh => ⟨((.slice none 0 0 : Value), (.slice none 0 0 : Value)), rfl, hh.sel [1, 0] rfl⟩)
                  · refine J_skip ?_
                    refine N_then ?_
                    refine J_seq ?_
                    refine J_region ?_
                    refine JL_q (wants_none rfl) rfl (ex_move rfl) ?_
                    refine JL_q (wants_none rfl) rfl (ex_nilCheck rfl) ?_
                    refine JL_q (wants_none rfl) rfl (ex_fieldAddr fi_55_3 rfl rfl) ?_
                    refine JL_q (wants_none rfl) rfl (ex_load_bx 4 ti_53 rfl rfl rfl) ?_
                    refine JL_q (wants_none rfl) rfl (ex_od 2 rfl (ex_len_ow 2 Try.underlying53 rfl rfl)) ?_
                    refine JL_q (wants_none rfl) rfl (ex_assign rfl) ?_
                    refine JL_nil ?_
                    refine N_then ?_
                    refine J_draw [2, 4] (by kernel_rfl) ?_
                    refine JP_take (i := 0) [0, 1, 3, 5, 6, 7, 8, 9, 10, 11] [2, 4] rfl (by kernel_rfl) (by kernel_rfl) (by kernel_rfl) rfl rfl (wants_none rfl) rfl (ex_move rfl) ?_
                    refine JP_take (i := 1) [0, 1, 3, 5, 6, 7, 8, 9, 10, 11] [2, 4] rfl (by kernel_rfl) (by kernel_rfl) (by kernel_rfl) rfl rfl (wants_none rfl) rfl (ex_move rfl) ?_
                    refine JP_take (i := 2) [0, 1, 3, 5, 6, 7, 8, 9, 10, 11] [2, 4] rfl (by kernel_rfl) (by kernel_rfl) (by kernel_rfl) rfl rfl (wants_none rfl) rfl (ex_nilCheck rfl) ?_
                    refine JP_take (i := 3) [0, 1, 3, 5, 6, 7, 8, 9, 10, 11] [2, 4] rfl (by kernel_rfl) (by kernel_rfl) (by kernel_rfl) rfl rfl (wants_none rfl) rfl (ex_fieldAddr fi_55_3 rfl rfl) ?_
                    refine JP_take (i := 5) [0, 1, 3, 5, 6, 7, 8, 9, 10, 11] [2, 4] rfl (by kernel_rfl) (by kernel_rfl) (by kernel_rfl) rfl rfl (wants_none rfl) rfl (ex_fieldAddr fi_129_3 rfl rfl) ?_
                    refine JP_take (i := 6) [0, 1, 3, 5, 6, 7, 8, 9, 10, 11] [2, 4] rfl (by kernel_rfl) (by kernel_rfl) (by kernel_rfl) rfl rfl (wants_none rfl) rfl (ex_load_bx 9 ti_35 rfl rfl rfl) ?_
                    refine JP_go [0, 1, 3, 5, 6, 7, 8, 9, 10, 11] [2, 4] rfl rfl rfl (fun w90 h1_91 hp89 => ?_)
                    refine JD_two (i := 4) (j := 7) (by kernel_rfl) ?_ ?_
                    · refine JO_q rfl (wants_none rfl) rfl (ex_load_bx 4 ti_53 rfl rfl rfl) ?_
                      refine JD_one (i := 7) (by kernel_rfl) ?_
                      refine JO_st rfl (wants_none rfl) rfl (st_buildSlice_od (vs := [x28_0]) (B := (x28_1 ++ [])) ([r26.next] : List (List Int)) [6] Try.underlying53 ti_35 zi_35 rfl rfl rfl rfl rfl (fun w hh => (dwv_cons (hh.dw 6 rfl) dwv_nil))) (fun _ hk => nomatch hk) (fun b92 => ?_)
                      refine JD_bnd fun z93 hz94 => ?_
                      refine JD_one (i := 8) (by kernel_rfl) ?_
                      refine JO_st rfl (wants_none rfl) rfl (st_append_od 3 0 Try.underlying53 ti_35 zi_35 rfl bi_35 rfl rfl rfl rfl rfl rfl hz94) (sub_od 0 rfl) (fun v95 => ?_)
                      refine JD_take (i := 9) hp89 rfl (by kernel_rfl) (by kernel_rfl) (by kernel_rfl) (wants_none rfl) rfl (ex_nilCheck rfl) ?_
                      refine JD_take (i := 10) hp89 rfl (by kernel_rfl) (by kernel_rfl) (by kernel_rfl) (wants_none rfl) rfl (ex_fieldAddr fi_55_3 rfl rfl) ?_
                      refine JD_one (i := 11) (by kernel_rfl) ?_
                      refine JO_sk rfl (wants_none rfl) (sk_store_bx' 5 ti_53 rfl rfl (fun w hh => (hh.cv_od 3 rfl)) rfl rfl rfl rfl) (sub_bx 1 rfl) ?_
                      refine JD_done (by kernel_rfl) ?_
                      exact N_meet' (v95, (g17_1 ++ (x28_1 ++ []))) ⟨rfl, rfl, rfl, rfl, rfl, rfl, trivial⟩ [1, 2, 3, 4, 5, 6, 12, 8, 9, 10, 11] rfl rfl
                    · refine JO_st rfl (wants_none rfl) rfl (st_buildSlice_od (vs := [x28_0]) (B := (x28_1 ++ [])) ([r26.next] : List (List Int)) [6] Try.underlying53 ti_35 zi_35 rfl rfl rfl rfl rfl (fun w hh => (dwv_cons (hh.dw 6 rfl) dwv_nil))) (fun _ hk => nomatch hk) (fun b96 => ?_)
                      refine JD_one (i := 4) (by kernel_rfl) ?_
                      refine JO_q rfl (wants_none rfl) rfl (ex_load_bx 5 ti_53 rfl rfl rfl) ?_
                      refine JD_bnd fun z97 hz98 => ?_
                      refine JD_one (i := 8) (by kernel_rfl) ?_
                      refine JO_st rfl (wants_none rfl) rfl (st_append_od 3 0 Try.underlying53 ti_35 zi_35 rfl bi_35 rfl rfl rfl rfl rfl rfl hz98) (sub_od 0 rfl) (fun v99 => ?_)
                      refine JD_take (i := 9) hp89 rfl (by kernel_rfl) (by kernel_rfl) (by kernel_rfl) (wants_none rfl) rfl (ex_nilCheck rfl) ?_
                      refine JD_take (i := 10) hp89 rfl (by kernel_rfl) (by kernel_rfl) (by kernel_rfl) (wants_none rfl) rfl (ex_fieldAddr fi_55_3 rfl rfl) ?_
                      refine JD_one (i := 11) (by kernel_rfl) ?_
                      refine JO_sk rfl (wants_none rfl) (sk_store_bx' 5 ti_53 rfl rfl (fun w hh => (hh.cv_od 3 rfl)) rfl rfl rfl rfl) (sub_bx 1 rfl) ?_
                      refine JD_done (by kernel_rfl) ?_
                      exact N_meet' (v99, (g17_1 ++ (x28_1 ++ []))) ⟨rfl, rfl, rfl, rfl, rfl, rfl, trivial⟩ [1, 2, 3, 4, 5, 6, 12, 8, 9, 10, 11] rfl rfl
                · obtain ⟨g87_0, g87_1⟩ := g87
                  refine N_then ?_
                  refine J_draw [3, 4] (by kernel_rfl) ?_
                  refine JP_take (i := 0) [0, 1, 2, 5, 6, 7, 8, 9, 10] [3, 4] rfl (by kernel_rfl) (by kernel_rfl) (by kernel_rfl) rfl rfl (wants_none rfl) rfl (ex_move rfl) ?_
                  refine JP_take (i := 1) [0, 1, 2, 5, 6, 7, 8, 9, 10] [3, 4] rfl (by kernel_rfl) (by kernel_rfl) (by kernel_rfl) rfl rfl (wants_none rfl) rfl (ex_move rfl) ?_
                  refine JP_take (i := 2) [0, 1, 2, 5, 6, 7, 8, 9, 10] [3, 4] rfl (by kernel_rfl) (by kernel_rfl) (by kernel_rfl) rfl rfl (wants_none rfl) rfl (ex_nilCheck rfl) ?_
                  refine JP_take (i := 3) [0, 1, 2, 5, 6, 7, 8, 9, 10] [3, 4] rfl (by kernel_rfl) (by kernel_rfl) (by kernel_rfl) rfl rfl (wants_none rfl) rfl (ex_fieldAddr fi_55_4 rfl rfl) ?_
                  refine JP_take (i := 4) [0, 1, 2, 5, 6, 7, 8, 9, 10] [3, 4] rfl (by kernel_rfl) (by kernel_rfl) (by kernel_rfl) rfl rfl (wants_none rfl) rfl (ex_fieldAddr fi_28_2 rfl rfl) ?_
                  refine JP_take (i := 6) [0, 1, 2, 5, 6, 7, 8, 9, 10] [3, 4] rfl (by kernel_rfl) (by kernel_rfl) (by kernel_rfl) rfl rfl (wants_none rfl) rfl (ex_fieldAddr fi_129_1 rfl rfl) ?_
                  refine JP_take (i := 7) [0, 1, 2, 5, 6, 7, 8, 9, 10] [3, 4] rfl (by kernel_rfl) (by kernel_rfl) (by kernel_rfl) rfl rfl (wants_none rfl) rfl (ex_load_bx 4 ti_2 rfl rfl rfl) ?_
                  refine JP_take (i := 8) [0, 1, 2, 5, 6, 7, 8, 9, 10] [3, 4] rfl (by kernel_rfl) (by kernel_rfl) (by kernel_rfl) rfl rfl (wants_none rfl) rfl (ex_fieldAddr fi_129_2 rfl rfl) ?_
                  refine JP_take (i := 9) [0, 1, 2, 5, 6, 7, 8, 9, 10] [3, 4] rfl (by kernel_rfl) (by kernel_rfl) (by kernel_rfl) rfl rfl (wants_none rfl) rfl (ex_load_bx 4 ti_2 rfl rfl rfl) ?_
                  refine JP_take (i := 10) [0, 1, 2, 5, 6, 7, 8, 9, 10] [3, 4] rfl (by kernel_rfl) (by kernel_rfl) (by kernel_rfl) rfl rfl (wants_none rfl) rfl (ex_move rfl) ?_
                  refine JP_take (i := 11) [0, 1, 2, 5, 6, 7, 8, 9, 10] [3, 4] rfl (by kernel_rfl) (by kernel_rfl) (by kernel_rfl) rfl rfl (wants_none rfl) rfl (ex_build si_97 rfl (.cons fi_97_0 rfl rfl (.cons fi_97_1 rfl rfl (.cons fi_97_2 rfl rfl .nil))) (fun w hh => ⟨cv_int, cv_int, cv_int, trivial⟩)) ?_
                  refine JP_go [0, 1, 2, 5, 6, 7, 8, 9, 10] [3, 4] rfl rfl rfl (fun w101 h1_102 hp100 => ?_)
                  refine JD_two (i := 5) (j := 12) (by kernel_rfl) ?_ ?_
                  · refine JO_q rfl (wants_none rfl) rfl (ex_load_bx 4 ti_26 rfl rfl rfl) ?_
                    refine JD_one (i := 12) (by kernel_rfl) ?_
                    refine JO_st rfl (wants_none rfl) rfl (st_buildSlice (vs := [.agg #[.int .i64 r26.write, .int .i64 r26.move, .int .i64 s86.2]]) ([(⟨r26.write, r26.move, s86.2⟩ : GRule)] : List GRule) Try.underlying26 ti_97 zi_97 rfl rfl rfl (fun w hh => ⟨(GRule.rdmk (Rd.mk_int _ _ _) (Rd.mk_int _ _ _) (Rd.mk_int _ _ _)), trivial⟩)) (fun _ hk => nomatch hk) (fun b103 => ?_)
                    refine JD_bnd fun z104 hz105 => ?_
                    refine JD_one (i := 13) (by kernel_rfl) ?_
                    refine JO_st rfl (wants_none rfl) rfl (st_append 4 Try.underlying26 ti_97 zi_97 rfl bi_97 rfl rfl rfl rfl (fun w hh => hh.src_ow 0 rfl) hz105) (sub_ow 0 rfl) (fun v106 => ?_)
                    refine JD_take (i := 14) hp100 rfl (by kernel_rfl) (by kernel_rfl) (by kernel_rfl) (wants_none rfl) rfl (ex_nilCheck rfl) ?_
                    refine JD_take (i := 15) hp100 rfl (by kernel_rfl) (by kernel_rfl) (by kernel_rfl) (wants_none rfl) rfl (ex_fieldAddr fi_55_4 rfl rfl) ?_
                    refine JD_take (i := 16) hp100 rfl (by kernel_rfl) (by kernel_rfl) (by kernel_rfl) (wants_none rfl) rfl (ex_fieldAddr fi_28_2 rfl rfl) ?_
                    refine JD_one (i := 17) (by kernel_rfl) ?_
                    refine JO_sk rfl (wants_none rfl) (sk_store_bx' 5 ti_26 rfl rfl (fun w hh => (hh.cv_ow 4 rfl)) rfl rfl rfl rfl) (sub_bx 1 rfl) ?_
                    refine JD_done (by kernel_rfl) ?_
                    refine N_block ?_
                    refine N_then ?_
                    refine J_region ?_
                    refine JL_q (wants_none rfl) rfl (ex_move rfl) ?_
                    refine JL_q (wants_none rfl) rfl (ex_add rfl rfl) ?_
                    refine JL_q (wants_none rfl) rfl (ex_assign rfl) ?_
                    refine JL_nil ?_
                    exact N_next' (g87_0, g87_1, v106) ⟨rfl, rfl, rfl, rfl, trivial⟩ [1, 2, 3, 4, 5, 8, 9, 10, 11] rfl rfl
                  · refine JO_st rfl (wants_none rfl) rfl (st_buildSlice (vs := [.agg #[.int .i64 r26.write, .int .i64 r26.move, .int .i64 s86.2]]) ([(⟨r26.write, r26.move, s86.2⟩ : GRule)] : List GRule) Try.underlying26 ti_97 zi_97 rfl rfl rfl (fun w hh => ⟨(GRule.rdmk (Rd.mk_int _ _ _) (Rd.mk_int _ _ _) (Rd.mk_int _ _ _)), trivial⟩)) (fun _ hk => nomatch hk) (fun b107 => ?_)
                    refine JD_one (i := 5) (by kernel_rfl) ?_
                    refine JO_q rfl (wants_none rfl) rfl (ex_load_bx 5 ti_26 rfl rfl rfl) ?_
                    refine JD_bnd fun z108 hz109 => ?_
                    refine JD_one (i := 13) (by kernel_rfl) ?_
                    refine JO_st rfl (wants_none rfl) rfl (st_append 4 Try.underlying26 ti_97 zi_97 rfl bi_97 rfl rfl rfl rfl (fun w hh => hh.src_ow 0 rfl) hz109) (sub_ow 0 rfl) (fun v110 => ?_)
                    refine JD_take (i := 14) hp100 rfl (by kernel_rfl) (by kernel_rfl) (by kernel_rfl) (wants_none rfl) rfl (ex_nilCheck rfl) ?_
                    refine JD_take (i := 15) hp100 rfl (by kernel_rfl) (by kernel_rfl) (by kernel_rfl) (wants_none rfl) rfl (ex_fieldAddr fi_55_4 rfl rfl) ?_
                    refine JD_take (i := 16) hp100 rfl (by kernel_rfl) (by kernel_rfl) (by kernel_rfl) (wants_none rfl) rfl (ex_fieldAddr fi_28_2 rfl rfl) ?_
                    refine JD_one (i := 17) (by kernel_rfl) ?_
                    refine JO_sk rfl (wants_none rfl) (sk_store_bx' 5 ti_26 rfl rfl (fun w hh => (hh.cv_ow 4 rfl)) rfl rfl rfl rfl) (sub_bx 1 rfl) ?_
                    refine JD_done (by kernel_rfl) ?_
                    refine N_block ?_
                    refine N_then ?_
                    refine J_region ?_
                    refine JL_q (wants_none rfl) rfl (ex_move rfl) ?_
                    refine JL_q (wants_none rfl) rfl (ex_add rfl rfl) ?_
                    refine JL_q (wants_none rfl) rfl (ex_assign rfl) ?_
                    refine JL_nil ?_
                    exact N_next' (g87_0, g87_1, v110) ⟨rfl, rfl, rfl, rfl, trivial⟩ [1, 2, 3, 4, 5, 8, 9, 10, 11] rfl rfl
          · refine J_exit ?_
            refine N_then_exit ?_
            exact N_break' (g17_0, g17_1, g17_2) ⟨rfl, rfl, rfl, rfl, trivial⟩ [0, 1, 2, 3, 4, 5, 6, 7, 8] rfl rfl
        · obtain ⟨g17_0, g17_1, g17_2⟩ := g17
          refine N_block ?_
          refine N_then ?_
          refine J_region ?_
          refine JL_q (wants_none rfl) rfl (ex_move rfl) ?_
          refine JL_q (wants_none rfl) rfl (ex_add rfl rfl) ?_
          refine JL_q (wants_none rfl) rfl (ex_assign rfl) ?_
          refine JL_nil ?_
          exact N_next' (g17_0, g17_1, g17_2) ⟨rfl, rfl, rfl, trivial⟩ [0, 1, 2, 3, 4, 5, 6, 7, 8] rfl rfl
      · refine J_exit ?_
        refine N_then_exit ?_
        exact N_break' (g14_0, g14_1, g14_2) ⟨rfl, rfl, rfl, trivial⟩ [0, 1, 2, 3, 4, 5, 6, 7, 8] rfl rfl
    · obtain ⟨g14_0, g14_1, g14_2⟩ := g14
      refine N_then ?_
      refine J_seq ?_
      refine J_region ?_
      refine JL_q (wants_none rfl) rfl (ex_move rfl) ?_
      refine JL_q (wants_none rfl) rfl (ex_move rfl) ?_
      refine JL_q (wants_none rfl) rfl (ex_nilCheck rfl) ?_
      refine JL_q (wants_none rfl) rfl (ex_fieldAddr fi_55_3 rfl rfl) ?_
      refine JL_q (wants_none rfl) rfl (ex_load_bx 4 ti_53 rfl rfl rfl) ?_
      refine JL_q (wants_none rfl) rfl (ex_od 2 rfl (ex_len_ow 2 Try.underlying53 rfl rfl)) ?_
      refine JL_q (wants_none rfl) rfl (ex_nilCheck rfl) ?_
      refine JL_q (wants_none rfl) rfl (ex_fieldAddr fi_55_4 rfl rfl) ?_
      refine JL_q (wants_none rfl) rfl (ex_fieldAddr fi_28_1 rfl rfl) ?_
      refine JL_sk (wants_none rfl) (sk_store_bx' 4 ti_2 rfl rfl (fun w hh => cv_int) rfl rfl rfl rfl) ?_
      refine JL_nil ?_
      refine N_then ?_
      refine J_seq ?_
      refine J_region ?_
      refine JL_q (wants_none rfl) rfl (ex_assign rfl) ?_
      refine JL_nil ?_
      refine N_then ?_
      refine J_ret ?_
      refine N_inl1 hK10 rfl (rv_tmp rfl) ?_
      refine JL_q (wants_none rfl) rfl (ex_assign rfl) ?_
      refine JL_nil ?_
      refine N_then ?_
      refine J_seq ?_
      refine J_region ?_
      refine JL_q (wants_none rfl) rfl (ex_move rfl) ?_
      refine JL_q (wants_none rfl) rfl (ex_move rfl) ?_
      refine JL_q (wants_none rfl) rfl (ex_assign rfl) ?_
      refine JL_q (wants_none rfl) rfl (ex_assign rfl) ?_
      refine JL_nil ?_
      refine N_then ?_
      refine J_ret ?_
      refine N_inl2 hK7 rfl (rv_tmp rfl) (rv_tmp rfl) ?_
      refine JL_q (wants_none rfl) rfl (ex_move rfl) ?_
      refine JL_q (wants_none rfl) rfl (ex_extract rfl rfl) ?_
      refine JL_q (wants_none rfl) rfl (ex_extract rfl rfl) ?_
      refine JL_q (wants_none rfl) rfl (ex_assign rfl) ?_
      refine JL_q (wants_none rfl) rfl (ex_assign rfl) ?_
      refine JL_nil ?_
      refine N_then ?_
      refine J_seq ?_
      refine J_seq ?_
      refine J_region ?_
      refine JL_q (wants_none rfl) rfl (ex_move rfl) ?_
      refine JL_q (wants_none rfl) rfl (ex_not rfl) ?_
      refine JL_nil ?_
      refine N_then ?_
      refine J_if_false rfl (by rw [show (true) = true from rfl]; rfl) ?_
      refine J_skip ?_
      refine N_then ?_
      refine J_seq ?_
      refine J_seq ?_
      refine J_region ?_
      refine JL_q (wants_none rfl) rfl (ex_move rfl) ?_
      refine JL_q (wants_none rfl) rfl (ex_nilCheck rfl) ?_
      refine JL_q (wants_none rfl) rfl (ex_fieldAddr fi_55_4 rfl rfl) ?_
      refine JL_bnd fun r111 hr112 => ?_
      refine JL_call (wants_none rfl) rfl Try.call42 rfl (Ca_of0 fun w hh => c_spec_l05Good _ w (fun _ hk => hk.elim) _ _ (hh.bx_paN (off := 0 + 4) (cs1 := [.int .i64 2, .int .i64 (s13.1.length : Int), g14_2]) 4 rfl rfl (GMachine.rdmk (Rd.mk_int _ _ _) (Rd.mk_int _ _ _) (hh.ow0 3 rfl)) rfl) _ _ (hh.bx_pa 7 rfl (GConfig.rdmk (Rd.mk_int _ _ _) (hh.rd0 5 rfl) (hh.rd0 6 rfl)) rfl) _ hr112) (fun _ => ?_)
      refine JL_q (wants_none rfl) rfl (ex_not rfl) ?_
      refine JL_nil ?_
      refine N_then ?_
      refine J_if rfl (fun h113 => ?_) (fun h113 => ?_)
      · refine J_seq ?_
        refine J_region ?_
        refine JL_q (wants_none rfl) rfl (ex_build si_39 rfl .nil (fun w hh => trivial)) ?_
        refine JL_sk (wants_none rfl) (sk_store_bx' 8 ti_39 rfl rfl (fun w hh => (cv_aggs ⟨cv_int, cv_slice, cv_slice, trivial⟩)) rfl rfl rfl rfl) ?_
        refine JL_q (wants_none rfl) rfl (ex_assign rfl) ?_
        refine JL_nil ?_
        refine N_then ?_
        refine J_ret ?_
        refine N_then_ret ?_
        refine N_ctx (fun w hh => SH.ow_nil (α := Int) 2 hh) ?_
        refine N_ctx (fun w hh => SH.ow_nil (α := Int) 2 hh) ?_
        exact N_ret2 rfl (rv_cell 10 rfl rfl ti_39 rfl) (rv_tmp rfl) (fun w hh => ⟨((.slice none 0 0 : Value), (.slice none 0 0 : Value)), rfl, hh.sel [1, 0] rfl⟩)
      · refine J_skip ?_
        refine N_then ?_
        refine J_seq ?_
        refine J_draw [2] (by kernel_rfl) ?_
        refine JP_take (i := 0) [0, 1, 3, 4, 5, 6, 7, 8] [2] rfl (by kernel_rfl) (by kernel_rfl) (by kernel_rfl) rfl rfl (wants_none rfl) rfl (ex_move rfl) ?_
        refine JP_take (i := 1) [0, 1, 3, 4, 5, 6, 7, 8] [2] rfl (by kernel_rfl) (by kernel_rfl) (by kernel_rfl) rfl rfl (wants_none rfl) rfl (ex_nilCheck rfl) ?_
        refine JP_take (i := 2) [0, 1, 3, 4, 5, 6, 7, 8] [2] rfl (by kernel_rfl) (by kernel_rfl) (by kernel_rfl) rfl rfl (wants_none rfl) rfl (ex_fieldAddr fi_55_3 rfl rfl) ?_
        refine JP_take (i := 3) [0, 1, 3, 4, 5, 6, 7, 8] [2] rfl (by kernel_rfl) (by kernel_rfl) (by kernel_rfl) rfl rfl (wants_none rfl) rfl (ex_load_bx 3 ti_53 rfl rfl rfl) ?_
        refine JP_take (i := 4) [0, 1, 3, 4, 5, 6, 7, 8] [2] rfl (by kernel_rfl) (by kernel_rfl) (by kernel_rfl) rfl rfl (wants_none rfl) rfl (ex_fieldAddr fi_39_0 rfl rfl) ?_
        refine JP_take (i := 5) [0, 1, 3, 4, 5, 6, 7, 8] [2] rfl (by kernel_rfl) (by kernel_rfl) (by kernel_rfl) rfl rfl (wants_none rfl) rfl (ex_load_bx 6 ti_2 rfl rfl rfl) ?_
        refine JP_bnd fun y114 hy115 => ?_
        refine JP_od_open (v := g14_0) 2 rfl hy115 ?_; rintro b116 cap117 rfl
        refine JP_take (i := 6) [0, 1, 3, 4, 5, 6, 7, 8] [2] rfl (by kernel_rfl) (by kernel_rfl) (by kernel_rfl) rfl rfl (wants_none rfl) rfl (ex_index_own Try.underlying53 ti_35 rfl rfl hy115 (by first | rfl | simp)) ?_
        refine JP_go [0, 1, 3, 4, 5, 6, 7, 8] [2] rfl rfl rfl (fun w119 h1_120 hp118 => ?_)
        refine JD_one (i := 7) (by kernel_rfl) ?_
        refine JO_st rfl (wants_none rfl) rfl (st_od 2 rfl (st_load_ow_o 2 (opens_sl _) ti_35 rfl rfl hy115) (fun _ => rfl)) (fun _ hk => nomatch hk) (fun v121 => ?_)
        refine JD_take (i := 8) hp118 rfl (by kernel_rfl) (by kernel_rfl) (by kernel_rfl) (wants_none rfl) rfl (ex_assign rfl) ?_
        refine JD_done (by kernel_rfl) ?_
        refine N_then ?_
        refine J_seq ?_
        refine J_seq ?_
        refine J_region ?_
        refine JL_q (wants_none rfl) rfl (ex_move rfl) ?_
        refine JL_bnd fun y122 hy123 => ?_
        refine JL_st (wants_none rfl) rfl (st_index 0 Try.underlying35 ti_2 rfl rfl rfl hy123) (fun q124 => ?_)
        refine JL_st (wants_none rfl) rfl (st_load_pt_o 0 (opens_int _) ti_2 rfl rfl) (fun _ => ?_)
        refine JL_q (wants_none rfl) rfl (ex_neq rfl rfl) ?_
        refine JL_nil ?_
        refine N_then ?_
        refine J_if rfl (fun h126 => ?_) (fun h126 => ?_)
        · refine J_seq ?_
          refine J_region ?_
          refine JL_q (wants_none rfl) rfl (ex_build si_39 rfl .nil (fun w hh => trivial)) ?_
          refine JL_sk (wants_none rfl) (sk_store_bx' 10 ti_39 rfl rfl (fun w hh => (cv_aggs ⟨cv_int, cv_slice, cv_slice, trivial⟩)) rfl rfl rfl rfl) ?_
          refine JL_q (wants_none rfl) rfl (ex_assign rfl) ?_
          refine JL_nil ?_
          refine N_then ?_
          refine J_ret ?_
          refine N_then_ret ?_
          refine N_ctx (fun w hh => SH.ow_nil (α := Int) 2 hh) ?_
          refine N_ctx (fun w hh => SH.ow_nil (α := Int) 2 hh) ?_
          exact N_ret2 rfl (rv_cell 12 rfl rfl ti_39 rfl) (rv_tmp rfl) (fun w hh => ⟨((.slice none 0 0 : Value), (.slice none 0 0 : Value)), rfl, hh.sel [1, 0] rfl⟩)
        · refine J_skip ?_
          refine N_then ?_
          refine J_seq ?_
          refine J_region ?_
          refine JL_q (wants_none rfl) rfl (ex_move rfl) ?_
          refine JL_bnd fun y127 hy128 => ?_
          refine JL_st (wants_none rfl) rfl (st_index 1 Try.underlying35 ti_2 rfl rfl rfl hy128) (fun q129 => ?_)
          refine JL_st (wants_none rfl) rfl (st_load_pt_o 0 (opens_int _) ti_2 rfl rfl) (fun _ => ?_)
          refine JL_q (wants_none rfl) rfl (ex_assign rfl) ?_
          refine JL_nil ?_
          refine N_then ?_
          refine J_seq ?_
          refine J_region ?_
          refine JL_q (wants_none rfl) rfl (ex_fieldAddr fi_39_1 rfl rfl) ?_
          refine JL_q (wants_none rfl) rfl (ex_load_bx 10 ti_35 rfl rfl rfl) ?_
          refine JL_bnd fun r131 hr132 => ?_
          refine JL_call (wants_none rfl) rfl Try.call60 rfl (Ca_self (fun _ => rfl) fun w hh => c_spec_l00Own _ w (fun _ hk => hk.elim) _ _ (hh.rd0 8 rfl) _ hr132) (fun x133 => ?_)
          refine JL_q (wants_none rfl) rfl (ex_assign rfl) ?_
          refine JL_nil ?_
          refine N_then ?_
          refine J_seq ?_
          refine J_loop' (S := (List Int)) (G := Value) (F_spec_DecodeBinary_L4 y127) (fun s134 g135 => [(2, .pointer (some ⟨b1, 0, none⟩)), (3, .pointer (some ⟨b2, 0, none⟩)), (4, .pointer (some ⟨b3, 0, none⟩)), (8, v121), (9, .int .i64 y127), (10, g135)]) (fun s134 g135 => [.rd v0_0 p0.Rules, .bx b1 28 [.int .i64 p0.Symbols, .int .i64 p0.States, v0_0], .rd v1_0 p1.Left, .rd v1_1 p1.Right, .bx b2 39 [.int .i64 p1.State, v1_0, v1_1], .bx b3 39 [.int .i64 0, .slice none 0 0, .slice none 0 0], .rd v121 y114, .ow 2 g135 s134]) r131 x133 ⟨rfl, rfl, rfl, rfl, rfl, rfl, trivial⟩ [4, 5, 9, 10, 11, 12, 3, 0] rfl rfl (fun s134 g135 => ?_) (fun s134 g135 => ?_)
          · unfold F_spec_DecodeBinary_L4
            refine J_seq ?_
            refine J_seq ?_
            refine J_region ?_
            refine JL_q (wants_none rfl) rfl (ex_move rfl) ?_
            refine JL_q (wants_none rfl) rfl (ex_len_ow 7 Try.underlying35 rfl rfl) ?_
            refine JL_q (wants_none rfl) rfl (ex_move rfl) ?_
            refine JL_q (wants_none rfl) rfl (ex_lss rfl rfl) ?_
            refine JL_nil ?_
            refine N_then ?_
            refine J_if rfl (fun h136 => ?_) (fun h136 => ?_)
            · refine J_skip ?_
              refine N_then ?_
              refine J_block ?_
              refine J_region ?_
              refine JL_q (wants_none rfl) rfl (ex_move rfl) ?_
              refine JL_st (wants_none rfl) rfl (st_buildSlice (vs := [.int .i64 0]) ([0] : List Int) Try.underlying35 ti_2 zi_2 rfl rfl rfl (fun w hh => ⟨(Rd.mk_int _ _ _), trivial⟩)) (fun b137 => ?_)
              refine JL_bnd fun z138 hz139 => ?_
              refine JL_st (wants_none rfl) rfl (st_append 8 Try.underlying35 ti_2 zi_2 rfl bi_2 rfl rfl rfl rfl (fun w hh => hh.src_ow 0 rfl) hz139) (fun v140 => ?_)
              refine JL_q (wants_none rfl) rfl (ex_assign rfl) ?_
              refine JL_nil ?_
              refine N_block ?_
              exact N_next' v140 ⟨rfl, rfl, rfl, rfl, rfl, rfl, trivial⟩ [1, 2, 3, 4, 5, 6, 7, 8] rfl rfl
            · refine J_exit ?_
              refine N_then_exit ?_
              exact N_break' g135 ⟨rfl, rfl, rfl, rfl, rfl, rfl, trivial⟩ [0, 1, 2, 3, 4, 5, 6, 7] rfl rfl
          · refine N_then ?_
            refine J_seq ?_
            refine J_draw [] (by kernel_rfl) ?_
            refine JP_take (i := 0) [0, 1, 2, 3, 4, 5, 6, 7] [] rfl (by kernel_rfl) (by kernel_rfl) (by kernel_rfl) rfl rfl (wants_none rfl) rfl (ex_move rfl) ?_
            refine JP_take (i := 1) [0, 1, 2, 3, 4, 5, 6, 7] [] rfl (by kernel_rfl) (by kernel_rfl) (by kernel_rfl) rfl rfl (wants_none rfl) rfl (ex_move rfl) ?_
            refine JP_bnd fun z141 hz142 => ?_
            refine JP_ctx (fun w hh => hh.tokf 7 rfl rfl) ?_
            refine JP_sq (i := 2) [] rfl (by kernel_rfl) (by kernel_rfl) (by kernel_rfl) rfl (wants_none rfl) rfl (sq_slice 8 Try.underlying35 ti_2 rfl rfl rfl rfl hz142) (fun v143 => ?_)
            refine JP_take (i := 4) [0, 1, 2, 3, 4, 5, 6, 7, 8, 9] [] rfl (by kernel_rfl) (by kernel_rfl) (by kernel_rfl) rfl rfl (wants_none rfl) rfl (ex_fieldAddr fi_39_2 rfl rfl) ?_
            refine JP_take (i := 5) [0, 1, 2, 3, 4, 5, 6, 7, 8, 9] [] rfl (by kernel_rfl) (by kernel_rfl) (by kernel_rfl) rfl rfl (wants_none rfl) rfl (ex_load_bx 6 ti_35 rfl rfl rfl) ?_
            refine JP_go [0, 1, 2, 3, 4, 5, 6, 7, 8, 9] [] rfl rfl rfl (fun w145 h1_146 hp144 => ?_)
            refine JD_bnd fun r147 hr148 => ?_
            refine JD_one (i := 3) (by kernel_rfl) ?_
            refine JO_call rfl (wants_none rfl) rfl Try.call61 rfl (Ca_self (fun _ => rfl) fun w hh => c_spec_l03Reverse _ w (fun _ hk => hk.elim) _ _ (hh.rd0 0 rfl) _ hr148) (fun x149 => ?_)
            refine JD_bnd fun z150 hz151 => ?_
            refine JD_one (i := 6) (by kernel_rfl) ?_
            refine JO_st2 0 [] [0, 1, 2, 3, 4, 5, 6, 7, 8, 9] [1, 2, 3, 4, 5, 6, 7, 8, 9, 10] rfl rfl rfl rfl rfl rfl (wants_none rfl) rfl (st_append 0 Try.underlying35 ti_2 zi_2 rfl bi_2 rfl rfl rfl rfl (fun w hh => hh.src_rd 6 rfl) hz151) (fun _ hk => hk) (fun v152 => ?_)
            refine JD_take (i := 7) hp144 rfl (by kernel_rfl) (by kernel_rfl) (by kernel_rfl) (wants_none rfl) rfl (ex_assign rfl) ?_
            refine JD_done (by kernel_rfl) ?_
            refine N_then ?_
            refine J_seq ?_
            refine J_region ?_
            refine JL_q (wants_none rfl) rfl (ex_fieldAddr fi_28_0 rfl rfl) ?_
            refine JL_q (wants_none rfl) rfl (ex_load_bx 4 ti_2 rfl rfl rfl) ?_
            refine JL_bnd fun r153 hr154 => ?_
            refine JL_call (wants_none rfl) rfl Try.call53 rfl (Ca_of0 fun w hh => c_spec_l13Bits _ w (fun _ hk => hk.elim) _ _ hr154) (fun _ => ?_)
            refine JL_q (wants_none rfl) rfl (ex_assign rfl) ?_
            refine JL_nil ?_
            refine N_then ?_
            refine J_seq ?_
            refine J_draw [] (by kernel_rfl) ?_
            refine JP_take (i := 0) [0, 1, 2, 3, 4, 5, 6, 7, 8, 9, 10] [] rfl (by kernel_rfl) (by kernel_rfl) (by kernel_rfl) rfl rfl (wants_none rfl) rfl (ex_move rfl) ?_
            refine JP_take (i := 1) [0, 1, 2, 3, 4, 5, 6, 7, 8, 9, 10] [] rfl (by kernel_rfl) (by kernel_rfl) (by kernel_rfl) rfl rfl (wants_none rfl) rfl (ex_move rfl) ?_
            refine JP_bnd fun z155 hz156 => ?_
            refine JP_sq (i := 2) [] rfl (by kernel_rfl) (by kernel_rfl) (by kernel_rfl) rfl (wants_none rfl) rfl (sq_slice 10 Try.underlying35 ti_2 rfl rfl rfl rfl hz156) (fun v157 => ?_)
            refine JP_take (i := 3) [0, 1, 2, 3, 4, 5, 6, 7, 8, 9, 10, 11] [] rfl (by kernel_rfl) (by kernel_rfl) (by kernel_rfl) rfl rfl (wants_none rfl) rfl (ex_move rfl) ?_
            refine JP_take (i := 4) [0, 1, 2, 3, 4, 5, 6, 7, 8, 9, 10, 11] [] rfl (by kernel_rfl) (by kernel_rfl) (by kernel_rfl) rfl rfl (wants_none rfl) rfl (ex_fieldAddr fi_28_0 rfl rfl) ?_
            refine JP_take (i := 5) [0, 1, 2, 3, 4, 5, 6, 7, 8, 9, 10, 11] [] rfl (by kernel_rfl) (by kernel_rfl) (by kernel_rfl) rfl rfl (wants_none rfl) rfl (ex_load_bx 5 ti_2 rfl rfl rfl) ?_
            refine JP_go [0, 1, 2, 3, 4, 5, 6, 7, 8, 9, 10, 11] [] rfl rfl rfl (fun w159 h1_160 hp158 => ?_)
            refine JD_bnd fun r161 hr162 => ?_
            refine JD_one (i := 6) (by kernel_rfl) ?_
            refine JO_call rfl (wants_none rfl) rfl Try.call62 rfl (Ca_self (fun _ => rfl) fun w hh => c_spec_l13Symbols _ w (fun _ hk => hk.elim) _ _ (hh.rd0 0 rfl) _ _ _ _ hr162) (fun x163 => ?_)
            refine JD_take (i := 7) hp158 rfl (by kernel_rfl) (by kernel_rfl) (by kernel_rfl) (wants_none rfl) rfl (ex_move rfl) ?_
            refine JD_take (i := 8) hp158 rfl (by kernel_rfl) (by kernel_rfl) (by kernel_rfl) (wants_none rfl) rfl (ex_extract rfl rfl) ?_
            refine JD_take (i := 9) hp158 rfl (by kernel_rfl) (by kernel_rfl) (by kernel_rfl) (wants_none rfl) rfl (ex_extract rfl rfl) ?_
            refine JD_take (i := 10) hp158 rfl (by kernel_rfl) (by kernel_rfl) (by kernel_rfl) (wants_none rfl) rfl (ex_assign rfl) ?_
            refine JD_take (i := 11) hp158 rfl (by kernel_rfl) (by kernel_rfl) (by kernel_rfl) (wants_none rfl) rfl (ex_assign rfl) ?_
            refine JD_done (by kernel_rfl) ?_
            refine N_then ?_
            refine J_seq ?_
            refine J_region ?_
            refine JL_q (wants_none rfl) rfl (ex_move rfl) ?_
            refine JL_q (wants_none rfl) rfl (ex_move rfl) ?_
            refine JL_q (wants_none rfl) rfl (ex_fieldAddr fi_28_0 rfl rfl) ?_
            refine JL_q (wants_none rfl) rfl (ex_load_bx 6 ti_2 rfl rfl rfl) ?_
            refine JL_bnd fun r164 hr165 => ?_
            refine JL_call (wants_none rfl) rfl Try.call62 rfl (Ca_self (fun _ => rfl) fun w hh => c_spec_l13Symbols _ w (fun _ hk => hk.elim) _ _ (hh.ow0 2 rfl) _ _ _ _ hr165) (fun x166 => ?_)
            refine JL_q (wants_none rfl) rfl (ex_move rfl) ?_
            refine JL_q (wants_none rfl) rfl (ex_extract rfl rfl) ?_
            refine JL_q (wants_none rfl) rfl (ex_extract rfl rfl) ?_
            refine JL_q (wants_none rfl) rfl (ex_assign rfl) ?_
            refine JL_q (wants_none rfl) rfl (ex_assign rfl) ?_
            refine JL_nil ?_
            refine N_then ?_
            refine J_seq ?_
            refine J_seq ?_
            refine J_region ?_
            refine JL_q (wants_none rfl) rfl (ex_move rfl) ?_
            refine JL_q (wants_none rfl) rfl (ex_not rfl) ?_
            refine JL_q (wants_none rfl) rfl (ex_move rfl) ?_
            refine JL_cond (fun h167 => ?_) (fun h167 => ?_)
            · refine JL_passed rfl rfl rfl h167 ?_
              refine JL_passed rfl rfl rfl h167 ?_
              refine JL_q (wants_none rfl) rfl (ex_pick_true rfl h167 rfl) ?_
              refine JL_nil ?_
              refine N_then ?_
              refine J_if_true rfl rfl ?_
              refine J_seq ?_
              refine J_region ?_
              refine JL_q (wants_none rfl) rfl (ex_build si_39 rfl .nil (fun w hh => trivial)) ?_
              refine JL_sk (wants_none rfl) (sk_store_bx' 11 ti_39 rfl rfl (fun w hh => (cv_aggs ⟨cv_int, cv_slice, cv_slice, trivial⟩)) rfl rfl rfl rfl) ?_
              refine JL_q (wants_none rfl) rfl (ex_assign rfl) ?_
              refine JL_nil ?_
              refine N_then ?_
              refine J_ret ?_
              refine N_then_ret ?_
              refine N_ctx (fun w hh => SH.ow_nil (α := Int) 2 hh) ?_
              refine N_ctx (fun w hh => SH.ow_nil (α := Int) 2 hh) ?_
              exact N_ret2 rfl (rv_cell 13 rfl rfl ti_39 rfl) (rv_tmp rfl) (fun w hh => ⟨((.slice none 0 0 : Value), (.slice none 0 0 : Value)), rfl, hh.sel [1, 0] rfl⟩)
            · refine JL_q (wants_some rfl rfl rfl h167) rfl (ex_move rfl) ?_
              refine JL_q (wants_some rfl rfl rfl h167) rfl (ex_not rfl) ?_
              refine JL_q (wants_none rfl) rfl (ex_pick_false rfl h167 rfl) ?_
              refine JL_nil ?_
              refine N_then ?_
              refine J_if rfl (fun h168 => ?_) (fun h168 => ?_)
              · refine J_seq ?_
                refine J_region ?_
                refine JL_q (wants_none rfl) rfl (ex_build si_39 rfl .nil (fun w hh => trivial)) ?_
                refine JL_sk (wants_none rfl) (sk_store_bx' 11 ti_39 rfl rfl (fun w hh => (cv_aggs ⟨cv_int, cv_slice, cv_slice, trivial⟩)) rfl rfl rfl rfl) ?_
                refine JL_q (wants_none rfl) rfl (ex_assign rfl) ?_
                refine JL_nil ?_
                refine N_then ?_
                refine J_ret ?_
                refine N_then_ret ?_
                refine N_ctx (fun w hh => SH.ow_nil (α := Int) 2 hh) ?_
                refine N_ctx (fun w hh => SH.ow_nil (α := Int) 2 hh) ?_
                exact N_ret2 rfl (rv_cell 13 rfl rfl ti_39 rfl) (rv_tmp rfl) (fun w hh => ⟨((.slice none 0 0 : Value), (.slice none 0 0 : Value)), rfl, hh.sel [1, 0] rfl⟩)
              · refine J_skip ?_
                refine N_then ?_
                refine J_seq ?_
                refine J_region ?_
                refine JL_q (wants_none rfl) rfl (ex_move rfl) ?_
                refine JL_bnd fun y169 hy170 => ?_
                refine JL_st (wants_none rfl) rfl (st_index 12 Try.underlying35 ti_2 rfl rfl rfl hy170) (fun q171 => ?_)
                refine JL_st (wants_none rfl) rfl (st_load_pt_o 0 (opens_int _) ti_2 rfl rfl) (fun _ => ?_)
                refine JL_q (wants_none rfl) rfl (ex_move rfl) ?_
                refine JL_q (wants_none rfl) rfl (ex_move rfl) ?_
                refine JL_q (wants_none rfl) rfl (ex_build si_39 rfl (.cons fi_39_0 rfl rfl (.cons fi_39_1 rfl rfl (.cons fi_39_2 rfl rfl .nil))) (fun w hh => ⟨cv_int, (hh.cv_ow 2 rfl), (hh.cv_ow 1 rfl), trivial⟩)) ?_
                refine JL_sk (wants_none rfl) (sk_store_bx' 12 ti_39 rfl rfl (fun w hh => (cv_aggs ⟨cv_int, (hh.cv_ow 2 rfl), (hh.cv_ow 1 rfl), trivial⟩)) rfl rfl rfl rfl) ?_
                refine JL_q (wants_none rfl) rfl (ex_assign rfl) ?_
                refine JL_nil ?_
                refine N_then ?_
                refine J_ret ?_
                exact N_ret2 rfl (rv_cell 12 rfl rfl ti_39 rfl) (rv_tmp rfl) (fun w hh => ⟨(x163, x166), rfl, hh.sel [2, 1] rfl⟩)

set_option maxHeartbeats 40000000 in
theorem c_slices_Concat_Sint64_int64 (A : Nat → Prop) (w : World) (hA : ∀ k, A k → k < w.heap.size) (v0_ : Value) (p0 : (List (List Int))) (hp0 : Rd A w v0_ p0) (r : (List Int)) (hr : F_slices_Concat_Sint64_int64 p0 = some r) :
    Con Try.prog 105 [v0_] A w (fun x_ : Value => x_) (fun x_ => [.ow 2 x_ r]) := by
  refine Con_of (v := fun (r : (List Int)) (x_ : Value) => x_) (fs := fun r x_ => [.ow 2 x_ r]) Try.func105 rfl Try.ntmps105 rfl ((SH.start hA).start_rd rfl hp0) rfl ?_ hr
  unfold F_slices_Concat_Sint64_int64
  refine J_seq ?_
  refine J_region ?_
  refine JL_q (wants_none rfl) rfl (ex_assign rfl) ?_
  refine JL_nil ?_
  refine N_then ?_
  refine J_seq ?_
  refine J_region ?_
  refine JL_q (wants_none rfl) rfl (ex_assign rfl) ?_
  refine JL_nil ?_
  refine N_then ?_
  refine J_seq ?_
  refine J_seq ?_
  refine J_region ?_
  refine JL_q (wants_none rfl) rfl (ex_move rfl) ?_
  refine JL_q (wants_none rfl) rfl (ex_len_rd 0 Try.underlying53 rfl rfl) ?_
  refine JL_q (wants_none rfl) rfl (ex_move rfl) ?_
  refine JL_nil ?_
  refine N_then ?_
  refine J_loop' (S := Int × Int) (G := Unit) (F_slices_Concat_Sint64_int64_L1 p0) (fun s1 _ => [(0, v0_), (3, .int .i64 s1.1), (9, v0_), (10, .int .i64 (p0.length : Int)), (11, .int .i64 s1.2)]) (fun s1 _ => [.rd v0_ p0]) (0, 0) () ⟨rfl, rfl, rfl, rfl, rfl, trivial⟩ [0] rfl rfl (fun s1 g2 => ?_) (fun s1 g2 => ?_)
  · unfold F_slices_Concat_Sint64_int64_L1
    refine J_seq ?_
    refine J_region ?_
    refine JL_q (wants_none rfl) rfl (ex_lss rfl rfl) ?_
    refine JL_nil ?_
    refine N_then ?_
    refine J_seq ?_
    refine J_if rfl (fun h3 => ?_) (fun h3 => ?_)
    · refine J_skip ?_
      refine N_then ?_
      refine J_seq ?_
      refine J_block ?_
      refine J_seq ?_
      refine J_region ?_
      refine JL_bnd fun y4 hy5 => ?_
      refine JL_st (wants_none rfl) rfl (st_index 0 Try.underlying53 ti_35 rfl rfl rfl hy5) (fun q6 => ?_)
      refine JL_st (wants_none rfl) rfl (st_load_pt_o 0 (opens_sl _) ti_35 rfl rfl) (fun v7 => ?_)
      refine JL_q (wants_none rfl) rfl (ex_assign rfl) ?_
      refine JL_nil ?_
      refine N_then ?_
      refine J_seq ?_
      refine J_region ?_
      refine JL_q (wants_none rfl) rfl (ex_move rfl) ?_
      refine JL_q (wants_none rfl) rfl (ex_move rfl) ?_
      refine JL_q (wants_none rfl) rfl (ex_len_rd 0 Try.underlying35 rfl rfl) ?_
      refine JL_q (wants_none rfl) rfl (ex_add rfl rfl) ?_
      refine JL_q (wants_none rfl) rfl (ex_assign rfl) ?_
      refine JL_nil ?_
      refine N_then ?_
      refine J_seq ?_
      refine J_region ?_
      refine JL_q (wants_none rfl) rfl (ex_move rfl) ?_
      refine JL_q (wants_none rfl) rfl (ex_lss rfl rfl) ?_
      refine JL_nil ?_
      refine N_then ?_
      refine J_if rfl (fun h8 => ?_) (fun h8 => ?_)
      · refine J_region ?_
        exact JL_none
      · refine J_skip ?_
        refine N_block ?_
        refine N_then ?_
        refine J_region ?_
        refine JL_q (wants_none rfl) rfl (ex_add rfl rfl) ?_
        refine JL_q (wants_none rfl) rfl (ex_move rfl) ?_
        refine JL_nil ?_
        exact N_next' () ⟨rfl, rfl, rfl, rfl, rfl, trivial⟩ [2] rfl rfl
    · refine J_exit ?_
      refine N_then_exit ?_
      exact N_break' () ⟨rfl, rfl, rfl, rfl, rfl, trivial⟩ [0] rfl rfl
  · refine N_then ?_
    refine J_seq ?_
    refine J_region ?_
    refine JL_q (wants_none rfl) rfl (ex_move rfl) ?_
    refine JL_inline (wants_none rfl) rfl Try.call109 rfl Try.func109 rfl Try.ntmps109 rfl rfl (fun K_ hK9 => ?_)
    refine J_seq ?_
    refine J_region ?_
    refine JL_q (wants_none rfl) rfl (ex_assign rfl) ?_
    refine JL_nil ?_
    refine N_then ?_
    refine J_seq ?_
    refine J_cut' (S' := Unit) (G' := Unit) (fun _ _ => [(0, .slice none 0 0), (1, .int .i64 s1.1)]) (fun _ _ => [.rd v0_ p0]) ?_ (fun s10 g11 => ?_)
    · refine J_seq ?_
      refine J_region ?_
      refine JL_q (wants_none rfl) rfl (ex_move rfl) ?_
      refine JL_q (wants_none rfl) rfl (ex_lss rfl rfl) ?_
      refine JL_nil ?_
      refine N_then ?_
      refine J_if rfl (fun h12 => ?_) (fun h12 => ?_)
      · refine J_region ?_
        exact JL_none
      · refine J_skip ?_
        exact N_meet' () ⟨rfl, rfl, trivial⟩ [0] rfl rfl
    · refine N_then ?_
      refine J_seq ?_
      refine J_seq ?_
      refine J_region ?_
      refine JL_q (wants_none rfl) rfl (ex_move rfl) ?_
      refine JL_q (wants_none rfl) rfl (ex_move rfl) ?_
      refine JL_q (wants_none rfl) rfl (ex_cap_lit Try.underlying35 rfl) ?_
      refine JL_q (wants_none rfl) rfl (ex_move rfl) ?_
      refine JL_q (wants_none rfl) rfl (ex_len_nil Try.underlying35 rfl) ?_
      refine JL_q (wants_none rfl) rfl (ex_sub rfl rfl) ?_
      refine JL_q (wants_none rfl) rfl (ex_sub rfl rfl) ?_
      refine JL_q (wants_none rfl) rfl (ex_assign rfl) ?_
      refine JL_nil ?_
      refine N_then ?_
      refine J_seq ?_
      refine J_region ?_
      refine JL_q (wants_none rfl) rfl (ex_move rfl) ?_
      refine JL_q (wants_none rfl) rfl (ex_gtr rfl rfl) ?_
      refine JL_nil ?_
      refine N_then ?_
      refine J_if rfl (fun h13 => ?_) (fun h13 => ?_)
      · refine J_region ?_
        refine JL_q (wants_none rfl) rfl (ex_move rfl) ?_
        refine JL_q (wants_none rfl) rfl (ex_move rfl) ?_
        refine JL_q (wants_none rfl) rfl (ex_cap_lit Try.underlying35 rfl) ?_
        refine JL_q (wants_none rfl) rfl (ex_slice_nil Try.underlying35 ti_2 rfl rfl) ?_
        refine JL_q (wants_none rfl) rfl (ex_move rfl) ?_
        refine JL_bnd fun z14 hz15 => ?_
        refine JL_st (wants_none rfl) rfl (st_zeros (α := Int) Try.underlying35 Try.underlying3 ti_2 zi_2 bi_2 rfl (fun _ _ => zero_int) rfl rfl (of_decide_eq_true h13) hz15) (fun v16 => ?_)
        refine JL_q (wants_none rfl) rfl (ex_move rfl) ?_
        refine JL_q (wants_none rfl) rfl (ex_len_nil Try.underlying35 rfl) ?_
        refine JL_bnd fun z17 hz18 => ?_
        refine JL_st (wants_none rfl) rfl (st_slice_own 0 Try.underlying35 ti_2 rfl rfl rfl hz18) (fun v19 => ?_)
        refine JL_q (wants_none rfl) rfl (ex_assign rfl) ?_
        refine JL_nil ?_
        refine N_then ?_
        refine J_seq ?_
        refine J_region ?_
        refine JL_q (wants_none rfl) rfl (ex_move rfl) ?_
        refine JL_q (wants_none rfl) rfl (ex_assign rfl) ?_
        refine JL_nil ?_
        refine N_then ?_
        refine J_ret ?_
        refine N_inl1 hK9 rfl (rv_tmp rfl) ?_
        refine JL_q (wants_none rfl) rfl (ex_assign rfl) ?_
        refine JL_nil ?_
        refine N_then ?_
        refine J_seq ?_
        refine J_seq ?_
        refine J_region ?_
        refine JL_q (wants_none rfl) rfl (ex_move rfl) ?_
        refine JL_q (wants_none rfl) rfl (ex_len_rd 1 Try.underlying53 rfl rfl) ?_
        refine JL_q (wants_none rfl) rfl (ex_move rfl) ?_
        refine JL_nil ?_
        refine N_then ?_
        refine J_loop' (S := (List Int) × Int) (G := Value) (F_slices_Concat_Sint64_int64_L2 p0) (fun s20 g21 => [(6, g21), (25, v0_), (26, .int .i64 (p0.length : Int)), (27, .int .i64 s20.2)]) (fun s20 g21 => [.ow 2 g21 s20.1, .rd v0_ p0]) (z17, 0) v19 ⟨rfl, rfl, rfl, rfl, trivial⟩ [0, 1] rfl rfl (fun s20 g21 => ?_) (fun s20 g21 => ?_)
        · unfold F_slices_Concat_Sint64_int64_L2
          refine J_seq ?_
          refine J_region ?_
          refine JL_q (wants_none rfl) rfl (ex_lss rfl rfl) ?_
          refine JL_nil ?_
          refine N_then ?_
          refine J_seq ?_
          refine J_if rfl (fun h22 => ?_) (fun h22 => ?_)
          · refine J_skip ?_
            refine N_then ?_
            refine J_seq ?_
            refine J_block ?_
            refine J_seq ?_
            refine J_region ?_
            refine JL_bnd fun y23 hy24 => ?_
            refine JL_st (wants_none rfl) rfl (st_index 1 Try.underlying53 ti_35 rfl rfl rfl hy24) (fun q25 => ?_)
            refine JL_st (wants_none rfl) rfl (st_load_pt_o 0 (opens_sl _) ti_35 rfl rfl) (fun v26 => ?_)
            refine JL_q (wants_none rfl) rfl (ex_assign rfl) ?_
            refine JL_nil ?_
            refine N_then ?_
            refine J_region ?_
            refine JL_q (wants_none rfl) rfl (ex_move rfl) ?_
            refine JL_q (wants_none rfl) rfl (ex_move rfl) ?_
            refine JL_bnd fun z27 hz28 => ?_
            refine JL_st (wants_none rfl) rfl (st_append 2 Try.underlying35 ti_2 zi_2 rfl bi_2 rfl rfl rfl rfl (fun w hh => hh.src_rd 0 rfl) hz28) (fun v29 => ?_)
            refine JL_q (wants_none rfl) rfl (ex_assign rfl) ?_
            refine JL_nil ?_
            refine N_block ?_
            refine N_then ?_
            refine J_region ?_
            refine JL_q (wants_none rfl) rfl (ex_add rfl rfl) ?_
            refine JL_q (wants_none rfl) rfl (ex_move rfl) ?_
            refine JL_nil ?_
            exact N_next' v29 ⟨rfl, rfl, rfl, rfl, trivial⟩ [2, 3] rfl rfl
          · refine J_exit ?_
            refine N_then_exit ?_
            exact N_break' g21 ⟨rfl, rfl, rfl, rfl, trivial⟩ [0, 1] rfl rfl
        · refine N_then ?_
          refine J_seq ?_
          refine J_region ?_
          refine JL_q (wants_none rfl) rfl (ex_move rfl) ?_
          refine JL_q (wants_none rfl) rfl (ex_assign rfl) ?_
          refine JL_nil ?_
          refine N_then ?_
          refine J_ret ?_
          exact N_ret1 rfl (rv_tmp rfl) (fun w hh => ⟨g21, rfl, hh.sel [0] rfl⟩)
      · refine J_skip ?_
        refine N_then ?_
        refine J_seq ?_
        refine J_region ?_
        refine JL_q (wants_none rfl) rfl (ex_move rfl) ?_
        refine JL_q (wants_none rfl) rfl (ex_assign rfl) ?_
        refine JL_nil ?_
        refine N_then ?_
        refine J_ret ?_
        refine N_inl1 hK9 rfl (rv_tmp rfl) ?_
        refine JL_q (wants_none rfl) rfl (ex_assign rfl) ?_
        refine JL_nil ?_
        refine N_then ?_
        refine J_seq ?_
        refine J_seq ?_
        refine J_region ?_
        refine JL_q (wants_none rfl) rfl (ex_move rfl) ?_
        refine JL_q (wants_none rfl) rfl (ex_len_rd 0 Try.underlying53 rfl rfl) ?_
        refine JL_q (wants_none rfl) rfl (ex_move rfl) ?_
        refine JL_nil ?_
        refine N_then ?_
        refine J_ctx (fun w hh => SH.ow_nil (α := Int) 2 hh) ?_
        refine J_loop' (S := (List Int) × Int) (G := Value) (F_slices_Concat_Sint64_int64_L3 p0) (fun s30 g31 => [(6, g31), (25, v0_), (26, .int .i64 (p0.length : Int)), (27, .int .i64 s30.2)]) (fun s30 g31 => [.ow 2 g31 s30.1, .rd v0_ p0]) (([] : (List Int)), 0) (.slice none 0 0 : Value) ⟨rfl, rfl, rfl, rfl, trivial⟩ [0, 1] rfl rfl (fun s30 g31 => ?_) (fun s30 g31 => ?_)
        · unfold F_slices_Concat_Sint64_int64_L3
          refine J_seq ?_
          refine J_region ?_
          refine JL_q (wants_none rfl) rfl (ex_lss rfl rfl) ?_
          refine JL_nil ?_
          refine N_then ?_
          refine J_seq ?_
          refine J_if rfl (fun h32 => ?_) (fun h32 => ?_)
          · refine J_skip ?_
            refine N_then ?_
            refine J_seq ?_
            refine J_block ?_
            refine J_seq ?_
            refine J_region ?_
            refine JL_bnd fun y33 hy34 => ?_
            refine JL_st (wants_none rfl) rfl (st_index 1 Try.underlying53 ti_35 rfl rfl rfl hy34) (fun q35 => ?_)
            refine JL_st (wants_none rfl) rfl (st_load_pt_o 0 (opens_sl _) ti_35 rfl rfl) (fun v36 => ?_)
            refine JL_q (wants_none rfl) rfl (ex_assign rfl) ?_
            refine JL_nil ?_
            refine N_then ?_
            refine J_region ?_
            refine JL_q (wants_none rfl) rfl (ex_move rfl) ?_
            refine JL_q (wants_none rfl) rfl (ex_move rfl) ?_
            refine JL_bnd fun z37 hz38 => ?_
            refine JL_st (wants_none rfl) rfl (st_append 2 Try.underlying35 ti_2 zi_2 rfl bi_2 rfl rfl rfl rfl (fun w hh => hh.src_rd 0 rfl) hz38) (fun v39 => ?_)
            refine JL_q (wants_none rfl) rfl (ex_assign rfl) ?_
            refine JL_nil ?_
            refine N_block ?_
            refine N_then ?_
            refine J_region ?_
            refine JL_q (wants_none rfl) rfl (ex_add rfl rfl) ?_
            refine JL_q (wants_none rfl) rfl (ex_move rfl) ?_
            refine JL_nil ?_
            exact N_next' v39 ⟨rfl, rfl, rfl, rfl, trivial⟩ [2, 3] rfl rfl
          · refine J_exit ?_
            refine N_then_exit ?_
            exact N_break' g31 ⟨rfl, rfl, rfl, rfl, trivial⟩ [0, 1] rfl rfl
        · refine N_then ?_
          refine J_seq ?_
          refine J_region ?_
          refine JL_q (wants_none rfl) rfl (ex_move rfl) ?_
          refine JL_q (wants_none rfl) rfl (ex_assign rfl) ?_
          refine JL_nil ?_
          refine N_then ?_
          refine J_ret ?_
          exact N_ret1 rfl (rv_tmp rfl) (fun w hh => ⟨g31, rfl, hh.sel [0] rfl⟩)

set_option maxHeartbeats 40000000 in
theorem c_impl_joined (A : Nat → Prop) (w : World) (hA : ∀ k, A k → k < w.heap.size) (v0_ : Value) (p0 : (List (List Int))) (hp0 : Rd A w v0_ p0) (r : (List Int)) (hr : F_impl_joined p0 = some r) :
    Con Try.prog 89 [v0_] A w (fun x_ : Value => x_) (fun x_ => [.ow 2 x_ r]) := by
  refine Con_of (v := fun (r : (List Int)) (x_ : Value) => x_) (fs := fun r x_ => [.ow 2 x_ r]) Try.func89 rfl Try.ntmps89 rfl ((SH.start hA).start_rd rfl hp0) rfl ?_ hr
  unfold F_impl_joined
  refine J_seq ?_
  refine J_region ?_
  refine JL_q (wants_none rfl) rfl (ex_assign rfl) ?_
  refine JL_nil ?_
  refine N_then ?_
  refine J_seq ?_
  refine J_region ?_
  refine JL_q (wants_none rfl) rfl (ex_move rfl) ?_
  refine JL_bnd fun r1 hr2 => ?_
  refine JL_call (wants_none rfl) rfl Try.call105 rfl (Ca_self (fun _ => rfl) fun w hh => c_slices_Concat_Sint64_int64 _ w (fun _ hk => hk.elim) _ _ (hh.rd0 0 rfl) _ hr2) (fun x3 => ?_)
  refine JL_q (wants_none rfl) rfl (ex_assign rfl) ?_
  refine JL_nil ?_
  refine N_then ?_
  refine J_ret ?_
  exact N_ret1 rfl (rv_tmp rfl) (fun w hh => ⟨x3, rfl, hh.sel [0] rfl⟩)

set_option maxHeartbeats 40000000 in
theorem c_impl_decodedSide (A : Nat → Prop) (w : World) (hA : ∀ k, A k → k < w.heap.size) (v0_ : Value) (p0 : (List Int)) (hp0 : Rd A w v0_ p0) (p1 : Int) (p2 : Int) (r : (List Int) × Bool) (hr : F_impl_decodedSide p0 p1 p2 = some r) :
    Con Try.prog 91 [v0_, .int .i64 p1, .int .i64 p2] A w (fun x_ : Value => .tuple #[x_, .bool r.2]) (fun x_ => [.ow 2 x_ r.1]) := by
  refine Con_of (v := fun (r : (List Int) × Bool) (x_ : Value) => .tuple #[x_, .bool r.2]) (fs := fun r x_ => [.ow 2 x_ r.1]) Try.func91 rfl Try.ntmps91 rfl ((SH.start hA).start_rd rfl hp0) rfl ?_ hr
  unfold F_impl_decodedSide
  refine J_seq ?_
  refine J_region ?_
  refine JL_q (wants_none rfl) rfl (ex_assign rfl) ?_
  refine JL_q (wants_none rfl) rfl (ex_assign rfl) ?_
  refine JL_nil ?_
  refine N_then ?_
  refine J_seq ?_
  refine J_region ?_
  refine JL_st (wants_none rfl) rfl (st_buildSlice (vs := []) ([] : List Int) Try.underlying35 ti_2 zi_2 rfl rfl rfl (fun w hh => trivial)) (fun b1 => ?_)
  refine JL_q (wants_none rfl) rfl (ex_assign rfl) ?_
  refine JL_nil ?_
  refine N_then ?_
  refine J_seq ?_
  refine J_seq ?_
  refine J_region ?_
  refine JL_q (wants_none rfl) rfl (ex_assign rfl) ?_
  refine JL_nil ?_
  refine N_then ?_
  refine J_loop' (S := (List Int) × Int) (G := Value) (F_impl_decodedSide_L1 p0 p1 p2) (fun s2 g3 => [(0, v0_), (1, .int .i64 p1), (2, .int .i64 p2), (8, g3), (9, .int .i64 s2.2)]) (fun s2 g3 => [.rd v0_ p0, .ow 2 g3 s2.1]) (([] : List Int), 0) (.slice (some ⟨b1, 0, none⟩) 0 0) ⟨rfl, rfl, rfl, rfl, rfl, trivial⟩ [1, 0] rfl rfl (fun s2 g3 => ?_) (fun s2 g3 => ?_)
  · unfold F_impl_decodedSide_L1
    refine J_seq ?_
    refine J_seq ?_
    refine J_region ?_
    refine JL_q (wants_none rfl) rfl (ex_move rfl) ?_
    refine JL_q (wants_none rfl) rfl (ex_move rfl) ?_
    refine JL_q (wants_none rfl) rfl (ex_len_rd 0 Try.underlying35 rfl rfl) ?_
    refine JL_q (wants_none rfl) rfl (ex_lss rfl rfl) ?_
    refine JL_nil ?_
    refine N_then ?_
    refine J_if rfl (fun h4 => ?_) (fun h4 => ?_)
    · refine J_skip ?_
      refine N_then ?_
      refine J_seq ?_
      refine J_block ?_
      refine J_seq ?_
      refine J_region ?_
      refine JL_q (wants_none rfl) rfl (ex_assign rfl) ?_
      refine JL_nil ?_
      refine N_then ?_
      refine J_seq ?_
      refine J_seq ?_
      refine J_region ?_
      refine JL_q (wants_none rfl) rfl (ex_move rfl) ?_
      refine JL_q (wants_none rfl) rfl (ex_move rfl) ?_
      refine JL_nil ?_
      refine N_then ?_
      refine J_loop' (S := Int × Int) (G := Unit) (F_impl_decodedSide_L2 p0 p1 s2) (fun s5 _ => [(0, v0_), (1, .int .i64 p1), (2, .int .i64 p2), (8, g3), (9, .int .i64 s2.2), (10, .int .i64 s5.1), (20, .int .i64 p1), (21, .int .i64 s5.2)]) (fun s5 _ => [.rd v0_ p0, .ow 2 g3 s2.1]) (0, 0) () ⟨rfl, rfl, rfl, rfl, rfl, rfl, rfl, rfl, trivial⟩ [0, 1] rfl rfl (fun s5 g6 => ?_) (fun s5 g6 => ?_)
      · unfold F_impl_decodedSide_L2
        refine J_seq ?_
        refine J_region ?_
        refine JL_q (wants_none rfl) rfl (ex_lss rfl rfl) ?_
        refine JL_nil ?_
        refine N_then ?_
        refine J_seq ?_
        refine J_if rfl (fun h7 => ?_) (fun h7 => ?_)
        · refine J_skip ?_
          refine N_then ?_
          refine J_seq ?_
          refine J_block ?_
          refine J_seq ?_
          refine J_region ?_
          refine JL_q (wants_none rfl) rfl (ex_move rfl) ?_
          refine JL_q (wants_none rfl) rfl (ex_assign rfl) ?_
          refine JL_nil ?_
          refine N_then ?_
          refine J_seq ?_
          refine J_region ?_
          refine JL_q (wants_none rfl) rfl (ex_move rfl) ?_
          refine JL_q (wants_none rfl) rfl (ex_mul rfl rfl) ?_
          refine JL_q (wants_none rfl) rfl (ex_assign rfl) ?_
          refine JL_nil ?_
          refine N_then ?_
          refine J_seq ?_
          refine J_region ?_
          refine JL_q (wants_none rfl) rfl (ex_move rfl) ?_
          refine JL_q (wants_none rfl) rfl (ex_move rfl) ?_
          refine JL_q (wants_none rfl) rfl (ex_add rfl rfl) ?_
          refine JL_q (wants_none rfl) rfl (ex_move rfl) ?_
          refine JL_q (wants_none rfl) rfl (ex_len_rd 0 Try.underlying35 rfl rfl) ?_
          refine JL_q (wants_none rfl) rfl (ex_lss rfl rfl) ?_
          refine JL_nil ?_
          refine N_then ?_
          refine J_if rfl (fun h8 => ?_) (fun h8 => ?_)
          · refine J_region ?_
            refine JL_q (wants_none rfl) rfl (ex_move rfl) ?_
            refine JL_q (wants_none rfl) rfl (ex_move rfl) ?_
            refine JL_q (wants_none rfl) rfl (ex_move rfl) ?_
            refine JL_q (wants_none rfl) rfl (ex_move rfl) ?_
            refine JL_q (wants_none rfl) rfl (ex_add rfl rfl) ?_
            refine JL_bnd fun y9 hy10 => ?_
            refine JL_st (wants_none rfl) rfl (st_index 0 Try.underlying35 ti_2 rfl rfl rfl hy10) (fun q11 => ?_)
            refine JL_st (wants_none rfl) rfl (st_load_pt_o 0 (opens_int _) ti_2 rfl rfl) (fun _ => ?_)
            refine JL_q (wants_none rfl) rfl (ex_add rfl rfl) ?_
            refine JL_q (wants_none rfl) rfl (ex_assign rfl) ?_
            refine JL_nil ?_
            refine N_block ?_
            refine N_then ?_
            refine J_region ?_
            refine JL_q (wants_none rfl) rfl (ex_add rfl rfl) ?_
            refine JL_q (wants_none rfl) rfl (ex_move rfl) ?_
            refine JL_nil ?_
            exact N_next' () ⟨rfl, rfl, rfl, rfl, rfl, rfl, rfl, rfl, trivial⟩ [1, 2] rfl rfl
          · refine J_skip ?_
            refine N_block ?_
            refine N_then ?_
            refine J_region ?_
            refine JL_q (wants_none rfl) rfl (ex_add rfl rfl) ?_
            refine JL_q (wants_none rfl) rfl (ex_move rfl) ?_
            refine JL_nil ?_
            exact N_next' () ⟨rfl, rfl, rfl, rfl, rfl, rfl, rfl, rfl, trivial⟩ [0, 1] rfl rfl
        · refine J_exit ?_
          refine N_then_exit ?_
          exact N_break' () ⟨rfl, rfl, rfl, rfl, rfl, rfl, rfl, rfl, trivial⟩ [0, 1] rfl rfl
      · refine N_then ?_
        refine J_seq ?_
        refine J_seq ?_
        refine J_region ?_
        refine JL_q (wants_none rfl) rfl (ex_move rfl) ?_
        refine JL_q (wants_none rfl) rfl (ex_move rfl) ?_
        refine JL_q (wants_none rfl) rfl (ex_geq rfl rfl) ?_
        refine JL_nil ?_
        refine N_then ?_
        refine J_if rfl (fun h13 => ?_) (fun h13 => ?_)
        · refine J_seq ?_
          refine J_region ?_
          refine JL_q (wants_none rfl) rfl (ex_assign rfl) ?_
          refine JL_q (wants_none rfl) rfl (ex_assign rfl) ?_
          refine JL_nil ?_
          refine N_then ?_
          refine J_ret ?_
          refine N_then_ret ?_
          refine N_block_ret ?_
          refine N_then_ret ?_
          refine N_round_ret ?_
          refine N_then_ret ?_
          refine N_ctx (fun w hh => SH.ow_nil (α := Int) 2 hh) ?_
          exact N_ret2 rfl (rv_tmp rfl) (rv_tmp rfl) (fun w hh => ⟨(.slice none 0 0 : Value), rfl, hh.sel [0] rfl⟩)
        · refine J_skip ?_
          refine N_then ?_
          refine J_region ?_
          refine JL_q (wants_none rfl) rfl (ex_move rfl) ?_
          refine JL_q (wants_none rfl) rfl (ex_move rfl) ?_
          refine JL_st (wants_none rfl) rfl (st_buildSlice (vs := [.int .i64 s5.1]) ([s5.1] : List Int) Try.underlying35 ti_2 zi_2 rfl rfl rfl (fun w hh => ⟨(Rd.mk_int _ _ _), trivial⟩)) (fun b14 => ?_)
          refine JL_bnd fun z15 hz16 => ?_
          refine JL_st (wants_none rfl) rfl (st_append 2 Try.underlying35 ti_2 zi_2 rfl bi_2 rfl rfl rfl rfl (fun w hh => hh.src_ow 0 rfl) hz16) (fun v17 => ?_)
          refine JL_q (wants_none rfl) rfl (ex_assign rfl) ?_
          refine JL_nil ?_
          refine N_block ?_
          refine N_then ?_
          refine J_region ?_
          refine JL_q (wants_none rfl) rfl (ex_move rfl) ?_
          refine JL_q (wants_none rfl) rfl (ex_move rfl) ?_
          refine JL_q (wants_none rfl) rfl (ex_add rfl rfl) ?_
          refine JL_q (wants_none rfl) rfl (ex_assign rfl) ?_
          refine JL_nil ?_
          exact N_next' v17 ⟨rfl, rfl, rfl, rfl, rfl, trivial⟩ [1, 2] rfl rfl
    · refine J_exit ?_
      refine N_then_exit ?_
      exact N_break' g3 ⟨rfl, rfl, rfl, rfl, rfl, trivial⟩ [0, 1] rfl rfl
  · refine N_then ?_
    refine J_seq ?_
    refine J_region ?_
    refine JL_q (wants_none rfl) rfl (ex_move rfl) ?_
    refine JL_inline (wants_none rfl) rfl Try.call84 rfl Try.func84 rfl Try.ntmps84 rfl rfl (fun K_ hK18 => ?_)
    refine J_seq ?_
    refine J_region ?_
    refine JL_q (wants_none rfl) rfl (ex_assign rfl) ?_
    refine JL_nil ?_
    refine N_then ?_
    refine J_seq ?_
    refine J_loop' (S := (List Int)) (G := Value) (F_impl_decodedSide_L3) (fun s19 g20 => [(0, g20)]) (fun s19 g20 => [.ow 2 g20 s19]) s2.1 g3 ⟨rfl, trivial⟩ [1] rfl rfl (fun s19 g20 => ?_) (fun s19 g20 => ?_)
    · unfold F_impl_decodedSide_L3
      refine J_seq ?_
      refine J_seq ?_
      refine J_region ?_
      refine JL_q (wants_none rfl) rfl (ex_move rfl) ?_
      refine JL_q (wants_none rfl) rfl (ex_len_ow 0 Try.underlying35 rfl rfl) ?_
      refine JL_q (wants_none rfl) rfl (ex_gtr rfl rfl) ?_
      refine JL_q (wants_none rfl) rfl (ex_move rfl) ?_
      refine JL_cond (fun h21 => ?_) (fun h21 => ?_)
      · refine JL_q (wants_some rfl rfl rfl h21) rfl (ex_move rfl) ?_
        refine JL_q (wants_some rfl rfl rfl h21) rfl (ex_move rfl) ?_
        refine JL_q (wants_some rfl rfl rfl h21) rfl (ex_len_ow 0 Try.underlying35 rfl rfl) ?_
        refine JL_q (wants_some rfl rfl rfl h21) rfl (ex_sub rfl rfl) ?_
        refine JL_bnd fun y22 hy23 => ?_
        refine JL_ow_open (v := g20) 0 rfl hy23 ?_; rintro b24 cap25 rfl
        refine JL_q (wants_some rfl rfl rfl h21) rfl (ex_index_ow 0 Try.underlying35 ti_2 rfl rfl rfl hy23) ?_
        refine JL_q (wants_some rfl rfl rfl h21) rfl (ex_load_ow_int 0 ti_2 rfl rfl hy23) ?_
        refine JL_q (wants_some rfl rfl rfl h21) rfl (ex_eql rfl rfl) ?_
        refine JL_q (wants_none rfl) rfl (ex_pick_true rfl h21 rfl) ?_
        refine JL_nil ?_
        refine N_then ?_
        refine J_if rfl (fun h27 => ?_) (fun h27 => ?_)
        · refine J_skip ?_
          refine N_then ?_
          refine J_block ?_
          refine J_region ?_
          refine JL_q (wants_none rfl) rfl (ex_move rfl) ?_
          refine JL_q (wants_none rfl) rfl (ex_move rfl) ?_
          refine JL_q (wants_none rfl) rfl (ex_len_ow 0 Try.underlying35 rfl rfl) ?_
          refine JL_q (wants_none rfl) rfl (ex_sub rfl rfl) ?_
          refine JL_bnd fun z28 hz29 => ?_
          refine JL_st (wants_none rfl) rfl (st_slice_own 0 Try.underlying35 ti_2 rfl rfl rfl hz29) (fun v30 => ?_)
          refine JL_q (wants_none rfl) rfl (ex_assign rfl) ?_
          refine JL_nil ?_
          refine N_block ?_
          exact N_next' v30 ⟨rfl, trivial⟩ [0] rfl rfl
        · refine J_exit ?_
          refine N_then_exit ?_
          exact N_break' (.slice (some ⟨b24, 0, none⟩) s19.length cap25) ⟨rfl, trivial⟩ [0] rfl rfl
      · refine JL_passed rfl rfl rfl h21 ?_
        refine JL_passed rfl rfl rfl h21 ?_
        refine JL_passed rfl rfl rfl h21 ?_
        refine JL_passed rfl rfl rfl h21 ?_
        refine JL_passed rfl rfl rfl h21 ?_
        refine JL_passed rfl rfl rfl h21 ?_
        refine JL_passed rfl rfl rfl h21 ?_
        refine JL_q (wants_none rfl) rfl (ex_pick_false rfl h21 rfl) ?_
        refine JL_nil ?_
        refine N_then ?_
        refine J_if_false rfl rfl ?_
        refine J_exit ?_
        refine N_then_exit ?_
        exact N_break' g20 ⟨rfl, trivial⟩ [0] rfl rfl
    · refine N_then ?_
      refine J_seq ?_
      refine J_region ?_
      refine JL_q (wants_none rfl) rfl (ex_move rfl) ?_
      refine JL_q (wants_none rfl) rfl (ex_assign rfl) ?_
      refine JL_nil ?_
      refine N_then ?_
      refine J_ret ?_
      refine N_inl1 hK18 rfl (rv_tmp rfl) ?_
      refine JL_q (wants_none rfl) rfl (ex_assign rfl) ?_
      refine JL_q (wants_none rfl) rfl (ex_assign rfl) ?_
      refine JL_nil ?_
      refine N_then ?_
      refine J_ret ?_
      exact N_ret2 rfl (rv_tmp rfl) (rv_tmp rfl) (fun w hh => ⟨g20, rfl, hh.sel [0] rfl⟩)

set_option maxHeartbeats 40000000 in
theorem c_impl_decodedLeft (A : Nat → Prop) (w : World) (hA : ∀ k, A k → k < w.heap.size) (v0_ : Value) (p0 : (List Int)) (hp0 : Rd A w v0_ p0) (p1 : Int) (p2 : Int) (r : (List Int) × Bool) (hr : F_impl_decodedLeft p0 p1 p2 = some r) :
    Con Try.prog 90 [v0_, .int .i64 p1, .int .i64 p2] A w (fun x_ : Value × List Nat => .tuple #[x_.1, .bool r.2]) (fun x_ => [.tkn x_.1 r.1 x_.2]) := by
  refine Con_of (v := fun (r : (List Int) × Bool) (x_ : Value × List Nat) => .tuple #[x_.1, .bool r.2]) (fs := fun r x_ => [.tkn x_.1 r.1 x_.2]) Try.func90 rfl Try.ntmps90 rfl ((SH.start hA).start_rd rfl hp0) rfl ?_ hr
  unfold F_impl_decodedLeft
  refine J_seq ?_
  refine J_region ?_
  refine JL_q (wants_none rfl) rfl (ex_assign rfl) ?_
  refine JL_q (wants_none rfl) rfl (ex_assign rfl) ?_
  refine JL_nil ?_
  refine N_then ?_
  refine J_seq ?_
  refine J_region ?_
  refine JL_q (wants_none rfl) rfl (ex_move rfl) ?_
  refine JL_bnd fun r1 hr2 => ?_
  refine JL_call (wants_none rfl) rfl Try.call86 rfl (Ca_self (fun _ => rfl) fun w hh => c_slices_Clone_Sint64_int64 _ w (fun _ hk => hk.elim) _ _ (hh.rd0 0 rfl) _ hr2) (fun x3 => ?_)
  refine JL_q (wants_none rfl) rfl (ex_assign rfl) ?_
  refine JL_nil ?_
  refine N_then ?_
  refine J_seq ?_
  refine J_loop' (S := (List Int)) (G := Value) (F_impl_decodedLeft_L1 p1) (fun s4 g5 => [(1, .int .i64 p1), (2, .int .i64 p2), (8, g5)]) (fun s4 g5 => [.ow 2 g5 s4]) r1 x3 ⟨rfl, rfl, rfl, trivial⟩ [0] rfl rfl (fun s4 g5 => ?_) (fun s4 g5 => ?_)
  · unfold F_impl_decodedLeft_L1
    refine J_seq ?_
    refine J_seq ?_
    refine J_region ?_
    refine JL_q (wants_none rfl) rfl (ex_move rfl) ?_
    refine JL_bnd fun r6 hr7 => ?_
    refine JL_call (wants_none rfl) rfl Try.call103 rfl (Ca_of0 fun w hh => c_impl_size_int64 _ w (fun _ hk => hk.elim) _ _ (hh.ow0 0 rfl) _ hr7) (fun _ => ?_)
    refine JL_q (wants_none rfl) rfl (ex_move rfl) ?_
    refine JL_bnd fun u8 hu9 => ?_
    refine JL_q (wants_none rfl) rfl (ex_rem rfl rfl (nz_ne hu9)) ?_
    refine JL_q (wants_none rfl) rfl (ex_neq rfl rfl) ?_
    refine JL_nil ?_
    refine N_then ?_
    refine J_if rfl (fun h10 => ?_) (fun h10 => ?_)
    · refine J_skip ?_
      refine N_then ?_
      refine J_block ?_
      refine J_region ?_
      refine JL_q (wants_none rfl) rfl (ex_move rfl) ?_
      refine JL_st (wants_none rfl) rfl (st_buildSlice (vs := [.int .i64 0]) ([0] : List Int) Try.underlying35 ti_2 zi_2 rfl rfl rfl (fun w hh => ⟨(Rd.mk_int _ _ _), trivial⟩)) (fun b11 => ?_)
      refine JL_bnd fun z12 hz13 => ?_
      refine JL_st (wants_none rfl) rfl (st_append 1 Try.underlying35 ti_2 zi_2 rfl bi_2 rfl rfl rfl rfl (fun w hh => hh.src_ow 0 rfl) hz13) (fun v14 => ?_)
      refine JL_q (wants_none rfl) rfl (ex_assign rfl) ?_
      refine JL_nil ?_
      refine N_block ?_
      exact N_next' v14 ⟨rfl, rfl, rfl, trivial⟩ [1] rfl rfl
    · refine J_exit ?_
      refine N_then_exit ?_
      exact N_break' g5 ⟨rfl, rfl, rfl, trivial⟩ [0] rfl rfl
  · refine N_then ?_
    refine J_seq ?_
    refine J_region ?_
    refine JL_q (wants_none rfl) rfl (ex_move rfl) ?_
    refine JL_bnd fun r15 hr16 => ?_
    refine JL_call (wants_none rfl) rfl Try.call58 rfl (Ca_self (fun _ => rfl) fun w hh => c_impl_reversed _ w (fun _ hk => hk.elim) _ _ (hh.ow0 0 rfl) _ hr16) (fun x17 => ?_)
    refine JL_q (wants_none rfl) rfl (ex_move rfl) ?_
    refine JL_q (wants_none rfl) rfl (ex_move rfl) ?_
    refine JL_bnd fun r18 hr19 => ?_
    refine JL_call (wants_none rfl) rfl Try.call91 rfl (Ca_self (fun _ => rfl) fun w hh => c_impl_decodedSide _ w (fun _ hk => hk.elim) _ _ (hh.ow0 0 rfl) _ _ _ hr19) (fun x20 => ?_)
    refine JL_q (wants_none rfl) rfl (ex_move rfl) ?_
    refine JL_q (wants_none rfl) rfl (ex_extract rfl rfl) ?_
    refine JL_q (wants_none rfl) rfl (ex_extract rfl rfl) ?_
    refine JL_q (wants_none rfl) rfl (ex_assign rfl) ?_
    refine JL_q (wants_none rfl) rfl (ex_assign rfl) ?_
    refine JL_nil ?_
    refine N_then ?_
    refine J_seq ?_
    refine J_seq ?_
    refine J_region ?_
    refine JL_q (wants_none rfl) rfl (ex_move rfl) ?_
    refine JL_q (wants_none rfl) rfl (ex_not rfl) ?_
    refine JL_nil ?_
    refine N_then ?_
    refine J_if rfl (fun h21 => ?_) (fun h21 => ?_)
    · refine J_seq ?_
      refine J_region ?_
      refine JL_q (wants_none rfl) rfl (ex_assign rfl) ?_
      refine JL_q (wants_none rfl) rfl (ex_assign rfl) ?_
      refine JL_nil ?_
      refine N_then ?_
      refine J_ret ?_
      refine N_then_ret ?_
      refine N_ctx (fun w hh => SH.ow_nil (α := Int) 2 hh) ?_
      refine N_ctx (fun w hh => hh.tokf 0 rfl rfl) ?_
      exact N_ret2 rfl (rv_tmp rfl) (rv_tmp rfl) (fun w hh => ⟨((.slice none 0 0 : Value), ((.slice none 0 0 : Value).ownBlock.toList ++ [])), rfl, hh.sel [0] rfl⟩)
    · refine J_skip ?_
      refine N_then ?_
      refine J_seq ?_
      refine J_loop' (S := (List Int)) (G := Value) (F_impl_decodedLeft_L2 p1 s4) (fun s22 g23 => [(1, .int .i64 p1), (8, g5), (9, g23)]) (fun s22 g23 => [.ow 2 g5 s4, .ow 2 g23 s22]) r18.1 x20 ⟨rfl, rfl, rfl, trivial⟩ [2, 0] rfl rfl (fun s22 g23 => ?_) (fun s22 g23 => ?_)
      · unfold F_impl_decodedLeft_L2
        refine J_seq ?_
        refine J_seq ?_
        refine J_region ?_
        refine JL_q (wants_none rfl) rfl (ex_move rfl) ?_
        refine JL_bnd fun r24 hr25 => ?_
        refine JL_call (wants_none rfl) rfl Try.call103 rfl (Ca_of0 fun w hh => c_impl_size_int64 _ w (fun _ hk => hk.elim) _ _ (hh.ow0 1 rfl) _ hr25) (fun _ => ?_)
        refine JL_q (wants_none rfl) rfl (ex_move rfl) ?_
        refine JL_bnd fun r26 hr27 => ?_
        refine JL_call (wants_none rfl) rfl Try.call103 rfl (Ca_of0 fun w hh => c_impl_size_int64 _ w (fun _ hk => hk.elim) _ _ (hh.ow0 0 rfl) _ hr27) (fun _ => ?_)
        refine JL_q (wants_none rfl) rfl (ex_move rfl) ?_
        refine JL_bnd fun u28 hu29 => ?_
        refine JL_q (wants_none rfl) rfl (ex_quo rfl rfl (nz_ne hu29)) ?_
        refine JL_q (wants_none rfl) rfl (ex_lss rfl rfl) ?_
        refine JL_nil ?_
        refine N_then ?_
        refine J_if rfl (fun h30 => ?_) (fun h30 => ?_)
        · refine J_skip ?_
          refine N_then ?_
          refine J_block ?_
          refine J_region ?_
          refine JL_q (wants_none rfl) rfl (ex_move rfl) ?_
          refine JL_st (wants_none rfl) rfl (st_buildSlice (vs := [.int .i64 0]) ([0] : List Int) Try.underlying35 ti_2 zi_2 rfl rfl rfl (fun w hh => ⟨(Rd.mk_int _ _ _), trivial⟩)) (fun b31 => ?_)
          refine JL_bnd fun z32 hz33 => ?_
          refine JL_st (wants_none rfl) rfl (st_append 2 Try.underlying35 ti_2 zi_2 rfl bi_2 rfl rfl rfl rfl (fun w hh => hh.src_ow 0 rfl) hz33) (fun v34 => ?_)
          refine JL_q (wants_none rfl) rfl (ex_assign rfl) ?_
          refine JL_nil ?_
          refine N_block ?_
          exact N_next' v34 ⟨rfl, rfl, rfl, trivial⟩ [1, 2] rfl rfl
        · refine J_exit ?_
          refine N_then_exit ?_
          exact N_break' g23 ⟨rfl, rfl, rfl, trivial⟩ [0, 1] rfl rfl
      · refine N_then ?_
        refine J_seq ?_
        refine J_region ?_
        refine JL_q (wants_none rfl) rfl (ex_move rfl) ?_
        refine JL_bnd fun r35 hr36 => ?_
        refine JL_call (wants_none rfl) rfl Try.call58 rfl (Ca_self (fun _ => rfl) fun w hh => c_impl_reversed _ w (fun _ hk => hk.elim) _ _ (hh.ow0 1 rfl) _ hr36) (fun x37 => ?_)
        refine JL_bnd fun r38 hr39 => ?_
        refine JL_call (wants_none rfl) rfl Try.call84 rfl (Ca_self (fun _ => rfl) fun w hh => c_impl_trimmed _ w (fun _ hk => hk.elim) _ _ (hh.ow0 0 rfl) _ hr39) (fun x40 => ?_)
        refine JL_ctx (fun w hh => hh.tokf 1 rfl rfl) ?_
        refine JL_ctx (fun w hh => hh.sub_rd 2 rfl (hh.pr 1 rfl)) ?_
        refine JL_ctx (fun w hh => hh.sub_tkn 1 rfl (hh.pr 2 rfl)) ?_
        refine JL_q (wants_none rfl) rfl (ex_assign rfl) ?_
        refine JL_q (wants_none rfl) rfl (ex_assign rfl) ?_
        refine JL_nil ?_
        refine N_then ?_
        refine J_ret ?_
        exact N_ret2 rfl (rv_tmp rfl) (rv_tmp rfl) (fun w hh => ⟨(x40, ((x37 : Value).ownBlock.toList ++ [])), rfl, hh.sel [1] rfl⟩)

end Go.Proofs.Ytceimgjcikkadaa
