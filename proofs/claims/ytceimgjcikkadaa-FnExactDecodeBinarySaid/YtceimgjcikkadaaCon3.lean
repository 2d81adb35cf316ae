/-
  Each function of the program computes what its plain function says: printed by program. No condition.
-/
import Derived.Test.YtceimgjcikkadaaFn
import Derived.Test.YtceimgjcikkadaaInf
import Derived.Test.YtceimgjcikkadaaCon2
namespace Go.Proofs.Ytceimgjcikkadaa
open Go Go.Tc Go.Fn
set_option linter.unusedVariables false

set_option maxHeartbeats 40000000 in
theorem c_impl_bitsOf (A : Nat → Prop) (w : World) (hA : ∀ k, A k → k < w.heap.size) (v0_ : Value) (p0 : GMachine) (hp0 : Rd A w v0_ p0) (r : Int) (hr : F_impl_bitsOf p0 = some r) :
    Con Try.prog 55 [v0_] A w (fun x_ : Unit => .int .i64 r) (fun x_ => []) := by
  obtain ⟨v0_0, rfl, hp0_0⟩ := GMachine.open hp0
  refine Con_of (v := fun (r : Int) (x_ : Unit) => .int .i64 r) (fs := fun r x_ => []) Try.func55 rfl Try.ntmps55 rfl ((SH.start hA).start_rd rfl hp0_0) rfl ?_ hr
  unfold F_impl_bitsOf
  refine J_seq ?_
  refine J_region ?_
  refine JL_st (wants_none rfl) rfl (st_box' rfl (fun w hh => (cv_aggs ⟨cv_int, cv_int, (hh.cv 0 rfl), trivial⟩))) (fun b1 => ?_)
  refine JL_q (wants_none rfl) rfl (ex_assign rfl) ?_
  refine JL_nil ?_
  refine N_then ?_
  refine J_seq ?_
  refine J_region ?_
  refine JL_q (wants_none rfl) rfl (ex_assign rfl) ?_
  refine JL_nil ?_
  refine N_then ?_
  refine J_seq ?_
  refine J_loop' (S := Int) (G := Unit) (F_impl_bitsOf_L1 p0) (fun s2 _ => [(1, .pointer (some ⟨b1, 0, none⟩)), (3, .int .i64 s2)]) (fun s2 _ => [.rd v0_0 p0.Rules, .bx b1 28 [.int .i64 p0.Symbols, .int .i64 p0.States, v0_0]]) 1 () ⟨rfl, rfl, trivial⟩ [1, 0] rfl rfl (fun s2 g3 => ?_) (fun s2 g3 => ?_)
  · unfold F_impl_bitsOf_L1
    refine J_seq ?_
    refine J_seq ?_
    refine J_draw [] (by kernel_rfl) ?_
    refine JP_take (i := 0) [0, 1] [] rfl (by kernel_rfl) (by kernel_rfl) (by kernel_rfl) rfl rfl (wants_none rfl) rfl (ex_move rfl) ?_
    refine JP_bnd fun u4 hu5 => ?_
    refine JP_take (i := 1) [0, 1] [] rfl (by kernel_rfl) (by kernel_rfl) (by kernel_rfl) rfl rfl (wants_none rfl) rfl (ex_shl rfl rfl (nneg_le hu5)) ?_
    refine JP_take (i := 2) [0, 1] [] rfl (by kernel_rfl) (by kernel_rfl) (by kernel_rfl) rfl rfl (wants_none rfl) rfl (ex_fieldAddr fi_28_0 rfl rfl) ?_
    refine JP_take (i := 3) [0, 1] [] rfl (by kernel_rfl) (by kernel_rfl) (by kernel_rfl) rfl rfl (wants_none rfl) rfl (ex_load_bx 1 ti_2 rfl rfl rfl) ?_
    refine JP_take (i := 4) [0, 1] [] rfl (by kernel_rfl) (by kernel_rfl) (by kernel_rfl) rfl rfl (wants_none rfl) rfl (ex_lss rfl rfl) ?_
    refine JP_go [] [] rfl rfl rfl (fun _ _ _ => ?_)
    refine JD_done (by kernel_rfl) ?_
    refine N_then ?_
    refine J_if rfl (fun h6 => ?_) (fun h6 => ?_)
    · refine J_skip ?_
      refine N_then ?_
      refine J_block ?_
      refine J_region ?_
      refine JL_q (wants_none rfl) rfl (ex_move rfl) ?_
      refine JL_q (wants_none rfl) rfl (ex_add rfl rfl) ?_
      refine JL_q (wants_none rfl) rfl (ex_assign rfl) ?_
      refine JL_nil ?_
      refine N_block ?_
      exact N_next' () ⟨rfl, rfl, trivial⟩ [0, 1] rfl rfl
    · refine J_exit ?_
      refine N_then_exit ?_
      exact N_break' () ⟨rfl, rfl, trivial⟩ [0, 1] rfl rfl
  · refine N_then ?_
    refine J_seq ?_
    refine J_region ?_
    refine JL_q (wants_none rfl) rfl (ex_move rfl) ?_
    refine JL_q (wants_none rfl) rfl (ex_assign rfl) ?_
    refine JL_nil ?_
    refine N_then ?_
    refine J_ret ?_
    exact N_ret1 rfl (rv_tmp rfl) (fun w hh => ⟨(), rfl, hh.sel [] rfl⟩)

set_option maxHeartbeats 40000000 in
theorem c_impl_startOf (A : Nat → Prop) (w : World) (hA : ∀ k, A k → k < w.heap.size) (p0 : Int) (r : GbitPlace) (hr : F_impl_startOf p0 = some r) :
    Con Try.prog 57 [.int .i64 p0] A w (fun x_ : Unit => .agg #[.int .i64 r.kind, .int .i64 r.a, .int .i64 r.b, .int .i64 r.c]) (fun x_ => []) := by
  refine Con_of (v := fun (r : GbitPlace) (x_ : Unit) => .agg #[.int .i64 r.kind, .int .i64 r.a, .int .i64 r.b, .int .i64 r.c]) (fs := fun r x_ => []) Try.func57 rfl Try.ntmps57 rfl (SH.start hA) rfl ?_ hr
  unfold F_impl_startOf
  refine J_seq ?_
  refine J_region ?_
  refine JL_st (wants_none rfl) rfl (st_alloc zi_60 rfl) (fun b1 => ?_)
  refine JL_nil ?_
  refine N_then ?_
  refine J_seq ?_
  refine J_region ?_
  refine JL_q (wants_none rfl) rfl (ex_move rfl) ?_
  refine JL_q (wants_none rfl) rfl (ex_build si_60 rfl (.cons fi_60_0 rfl rfl (.cons fi_60_1 rfl rfl .nil)) (fun w hh => ⟨cv_int, cv_int, trivial⟩)) ?_
  refine JL_sk (wants_none rfl) (sk_store_bx' 0 ti_60 rfl rfl (fun w hh => (cv_aggs ⟨cv_int, cv_int, cv_int, cv_int, trivial⟩)) rfl rfl rfl rfl) ?_
  refine JL_nil ?_
  refine N_then ?_
  refine J_ret ?_
  exact N_ret1 rfl (rv_cell 0 rfl rfl ti_60 rfl) (fun w hh => ⟨(), rfl, hh.sel [] rfl⟩)

set_option maxHeartbeats 40000000 in
theorem c_impl_bitAt (A : Nat → Prop) (w : World) (hA : ∀ k, A k → k < w.heap.size) (p0 : Int) (p1 : Int) (p2 : Int) (r : Int) (hr : F_impl_bitAt p0 p1 p2 = some r) :
    Con Try.prog 77 [.int .i64 p0, .int .i64 p1, .int .i64 p2] A w (fun x_ : Unit => .int .i64 r) (fun x_ => []) := by
  refine Con_of (v := fun (r : Int) (x_ : Unit) => .int .i64 r) (fs := fun r x_ => []) Try.func77 rfl Try.ntmps77 rfl (SH.start hA) rfl ?_ hr
  unfold F_impl_bitAt
  refine J_seq ?_
  refine J_region ?_
  refine JL_q (wants_none rfl) rfl (ex_assign rfl) ?_
  refine JL_nil ?_
  refine N_then ?_
  refine J_seq ?_
  refine J_region ?_
  refine JL_q (wants_none rfl) rfl (ex_move rfl) ?_
  refine JL_q (wants_none rfl) rfl (ex_move rfl) ?_
  refine JL_q (wants_none rfl) rfl (ex_sub rfl rfl) ?_
  refine JL_q (wants_none rfl) rfl (ex_move rfl) ?_
  refine JL_q (wants_none rfl) rfl (ex_sub rfl rfl) ?_
  refine JL_bnd fun u1 hu2 => ?_
  refine JL_q (wants_none rfl) rfl (ex_shr rfl rfl (nneg_le hu2)) ?_
  refine JL_q (wants_none rfl) rfl (ex_and rfl rfl) ?_
  refine JL_q (wants_none rfl) rfl (ex_assign rfl) ?_
  refine JL_nil ?_
  refine N_then ?_
  refine J_ret ?_
  exact N_ret1 rfl (rv_tmp rfl) (fun w hh => ⟨(), rfl, hh.sel [] rfl⟩)

set_option maxHeartbeats 40000000 in
theorem c_impl_readBit (A : Nat → Prop) (w : World) (hA : ∀ k, A k → k < w.heap.size) (v0_ : Value) (p0 : GMachine) (hp0 : Rd A w v0_ p0) (p1 : Int) (v2_ : Value) (p2 : GbitPlace) (hp2 : Rd A w v2_ p2) (p3 : Int) (r : Gaction_bitPlace) (hr : F_impl_readBit p0 p1 p2 p3 = some r) :
    Con Try.prog 76 [v0_, .int .i64 p1, v2_, .int .i64 p3] A w (fun x_ : Unit => .agg #[.int .i64 r.write, .int .i64 r.move, .int .i64 r.next_kind, .int .i64 r.next_a, .int .i64 r.next_b, .int .i64 r.next_c, .bool r.none]) (fun x_ => []) := by
  obtain ⟨v0_0, rfl, hp0_0⟩ := GMachine.open hp0
  obtain rfl := GbitPlace.open hp2
  refine Con_of (v := fun (r : Gaction_bitPlace) (x_ : Unit) => .agg #[.int .i64 r.write, .int .i64 r.move, .int .i64 r.next_kind, .int .i64 r.next_a, .int .i64 r.next_b, .int .i64 r.next_c, .bool r.none]) (fs := fun r x_ => []) Try.func76 rfl Try.ntmps76 rfl ((SH.start hA).start_rd rfl hp0_0) rfl ?_ hr
  unfold F_impl_readBit
  refine J_seq ?_
  refine J_region ?_
  refine JL_st (wants_none rfl) rfl (st_box' rfl (fun w hh => (cv_aggs ⟨cv_int, cv_int, (hh.cv 0 rfl), trivial⟩))) (fun b1 => ?_)
  refine JL_st (wants_none rfl) rfl (st_box' rfl (fun w hh => (cv_aggs ⟨cv_int, cv_int, cv_int, cv_int, trivial⟩))) (fun b2 => ?_)
  refine JL_st (wants_none rfl) rfl (st_alloc zi_107 rfl) (fun b3 => ?_)
  refine JL_nil ?_
  refine N_then ?_
  refine J_seq ?_
  refine J_region ?_
  refine JL_q (wants_none rfl) rfl (ex_fieldAddr fi_60_3 rfl rfl) ?_
  refine JL_q (wants_none rfl) rfl (ex_load_bx 1 ti_2 rfl rfl rfl) ?_
  refine JL_q (wants_none rfl) rfl (ex_mul rfl rfl) ?_
  refine JL_q (wants_none rfl) rfl (ex_move rfl) ?_
  refine JL_q (wants_none rfl) rfl (ex_add rfl rfl) ?_
  refine JL_q (wants_none rfl) rfl (ex_assign rfl) ?_
  refine JL_nil ?_
  refine N_then ?_
  refine J_seq ?_
  refine J_seq ?_
  refine J_region ?_
  refine JL_q (wants_none rfl) rfl (ex_fieldAddr fi_60_2 rfl rfl) ?_
  refine JL_q (wants_none rfl) rfl (ex_load_bx 1 ti_2 rfl rfl rfl) ?_
  refine JL_q (wants_none rfl) rfl (ex_move rfl) ?_
  refine JL_q (wants_none rfl) rfl (ex_sub rfl rfl) ?_
  refine JL_q (wants_none rfl) rfl (ex_lss rfl rfl) ?_
  refine JL_nil ?_
  refine N_then ?_
  refine J_if rfl (fun h4 => ?_) (fun h4 => ?_)
  · refine J_seq ?_
    refine J_region ?_
    refine JL_q (wants_none rfl) rfl (ex_move rfl) ?_
    refine JL_q (wants_none rfl) rfl (ex_fieldAddr fi_60_1 rfl rfl) ?_
    refine JL_q (wants_none rfl) rfl (ex_load_bx 1 ti_2 rfl rfl rfl) ?_
    refine JL_q (wants_none rfl) rfl (ex_fieldAddr fi_60_2 rfl rfl) ?_
    refine JL_q (wants_none rfl) rfl (ex_load_bx 1 ti_2 rfl rfl rfl) ?_
    refine JL_q (wants_none rfl) rfl (ex_add rfl rfl) ?_
    refine JL_q (wants_none rfl) rfl (ex_move rfl) ?_
    refine JL_q (wants_none rfl) rfl (ex_build si_60 rfl (.cons fi_60_0 rfl rfl (.cons fi_60_1 rfl rfl (.cons fi_60_2 rfl rfl (.cons fi_60_3 rfl rfl .nil)))) (fun w hh => ⟨cv_int, cv_int, cv_int, cv_int, trivial⟩)) ?_
    refine JL_q (wants_none rfl) rfl (ex_buildN [(0, .int .i64 p3, [.int .i64 p3]), (1, .int .i64 1, [.int .i64 1]), (2, .agg #[.int .i64 0, .int .i64 p2.a, .int .i64 (w64 (p2.b + 1)), .int .i64 (w64 ((w64 (2 * p2.c)) + p3))], [.int .i64 0, .int .i64 p2.a, .int .i64 (w64 (p2.b + 1)), .int .i64 (w64 ((w64 (2 * p2.c)) + p3))])] si_107 rfl (.cons fi_107_0 rfl rfl rfl (.cons fi_107_1 rfl rfl rfl (.cons fi_107_2 rfl rfl rfl .nil))) (fun w hh => ⟨cv_int, cv_int, (cv_aggs ⟨cv_int, cv_int, cv_int, cv_int, trivial⟩), trivial⟩)) ?_
    refine JL_sk (wants_none rfl) (sk_store_bx' 0 ti_107 rfl rfl (fun w hh => (cv_aggs ⟨cv_int, cv_int, cv_int, cv_int, cv_int, cv_int, cv_bool, trivial⟩)) rfl rfl rfl rfl) ?_
    refine JL_nil ?_
    refine N_then ?_
    refine J_ret ?_
    refine N_then_ret ?_
    exact N_ret1 rfl (rv_cell 0 rfl rfl ti_107 rfl) (fun w hh => ⟨(), rfl, hh.sel [] rfl⟩)
  · refine J_skip ?_
    refine N_then ?_
    refine J_seq ?_
    refine J_region ?_
    refine JL_q (wants_none rfl) rfl (ex_fieldAddr fi_60_1 rfl rfl) ?_
    refine JL_q (wants_none rfl) rfl (ex_load_bx 1 ti_2 rfl rfl rfl) ?_
    refine JL_q (wants_none rfl) rfl (ex_fieldAddr fi_28_0 rfl rfl) ?_
    refine JL_q (wants_none rfl) rfl (ex_load_bx 2 ti_2 rfl rfl rfl) ?_
    refine JL_q (wants_none rfl) rfl (ex_mul rfl rfl) ?_
    refine JL_q (wants_none rfl) rfl (ex_move rfl) ?_
    refine JL_q (wants_none rfl) rfl (ex_add rfl rfl) ?_
    refine JL_q (wants_none rfl) rfl (ex_assign rfl) ?_
    refine JL_nil ?_
    refine N_then ?_
    refine J_seq ?_
    refine J_cut' (S' := Unit) (G' := Unit) (fun _ _ => [(1, .int .i64 p1), (4, .pointer (some ⟨b1, 0, none⟩)), (8, .pointer (some ⟨b3, 0, none⟩)), (10, .int .i64 (w64 ((w64 (p2.a * p0.Symbols)) + (w64 ((w64 (2 * p2.c)) + p3)))))]) (fun _ _ => [.rd v0_0 p0.Rules, .bx b1 28 [.int .i64 p0.Symbols, .int .i64 p0.States, v0_0], .bx b3 107 [.int .i64 0, .int .i64 0, .int .i64 0, .int .i64 0, .int .i64 0, .int .i64 0, .bool false]]) ?_ (fun s5 g6 => ?_)
    · refine J_seq ?_
      refine J_region ?_
      refine JL_q (wants_none rfl) rfl (ex_move rfl) ?_
      refine JL_q (wants_none rfl) rfl (ex_fieldAddr fi_28_0 rfl rfl) ?_
      refine JL_q (wants_none rfl) rfl (ex_load_bx 2 ti_2 rfl rfl rfl) ?_
      refine JL_q (wants_none rfl) rfl (ex_geq rfl rfl) ?_
      refine JL_q (wants_none rfl) rfl (ex_move rfl) ?_
      refine JL_cond (fun h7 => ?_) (fun h7 => ?_)
      · refine JL_passed rfl rfl rfl h7 ?_
        refine JL_passed rfl rfl rfl h7 ?_
        refine JL_passed rfl rfl rfl h7 ?_
        refine JL_passed rfl rfl rfl h7 ?_
        refine JL_passed rfl rfl rfl h7 ?_
        refine JL_passed rfl rfl rfl h7 ?_
        refine JL_passed rfl rfl rfl h7 ?_
        refine JL_q (wants_none rfl) rfl (ex_pick_true rfl h7 rfl) ?_
        refine JL_nil ?_
        refine N_then ?_
        refine J_if_true rfl rfl ?_
        refine J_seq ?_
        refine J_region ?_
        refine JL_q (wants_none rfl) rfl (ex_build si_107 rfl (.cons fi_107_3 rfl rfl .nil) (fun w hh => ⟨cv_bool, trivial⟩)) ?_
        refine JL_sk (wants_none rfl) (sk_store_bx' 0 ti_107 rfl rfl (fun w hh => (cv_aggs ⟨cv_int, cv_int, cv_int, cv_int, cv_int, cv_int, cv_bool, trivial⟩)) rfl rfl rfl rfl) ?_
        refine JL_nil ?_
        refine N_then ?_
        refine J_ret ?_
        refine N_mid_ret ?_
        refine N_then_ret ?_
        exact N_ret1 rfl (rv_cell 0 rfl rfl ti_107 rfl) (fun w hh => ⟨(), rfl, hh.sel [] rfl⟩)
      · refine JL_q (wants_some rfl rfl rfl h7) rfl (ex_fieldAddr fi_28_2 rfl rfl) ?_
        refine JL_q (wants_some rfl rfl rfl h7) rfl (ex_load_bx 2 ti_26 rfl rfl rfl) ?_
        refine JL_q (wants_some rfl rfl rfl h7) rfl (ex_move rfl) ?_
        refine JL_bnd fun y8 hy9 => ?_
        refine JL_st (wants_some rfl rfl rfl h7) rfl (st_index 3 Try.underlying26 ti_97 rfl rfl rfl hy9) (fun q10 => ?_)
        refine JL_st (wants_some rfl rfl rfl h7) rfl (st_load_pt_o 0 (GRule.opens _) ti_97 rfl rfl) (fun _ => ?_)
        refine JL_bnd fun r12 hr13 => ?_
        refine JL_call (wants_some rfl rfl rfl h7) rfl Try.call95 rfl (Ca_of0 fun w hh => c_impl_isRule _ w (fun _ hk => hk.elim) _ _ (GRule.rdmk (Rd.mk_int _ _ _) (Rd.mk_int _ _ _) (Rd.mk_int _ _ _)) _ hr13) (fun _ => ?_)
        refine JL_q (wants_some rfl rfl rfl h7) rfl (ex_not rfl) ?_
        refine JL_q (wants_none rfl) rfl (ex_pick_false rfl h7 rfl) ?_
        refine JL_nil ?_
        refine N_then ?_
        refine J_if rfl (fun h14 => ?_) (fun h14 => ?_)
        · refine J_seq ?_
          refine J_region ?_
          refine JL_q (wants_none rfl) rfl (ex_build si_107 rfl (.cons fi_107_3 rfl rfl .nil) (fun w hh => ⟨cv_bool, trivial⟩)) ?_
          refine JL_sk (wants_none rfl) (sk_store_bx' 1 ti_107 rfl rfl (fun w hh => (cv_aggs ⟨cv_int, cv_int, cv_int, cv_int, cv_int, cv_int, cv_bool, trivial⟩)) rfl rfl rfl rfl) ?_
          refine JL_nil ?_
          refine N_then ?_
          refine J_ret ?_
          refine N_mid_ret ?_
          refine N_then_ret ?_
          exact N_ret1 rfl (rv_cell 1 rfl rfl ti_107 rfl) (fun w hh => ⟨(), rfl, hh.sel [] rfl⟩)
        · refine J_skip ?_
          exact N_meet' () ⟨rfl, rfl, rfl, rfl, trivial⟩ [4, 3, 1] rfl rfl
    · refine N_then ?_
      refine J_seq ?_
      refine J_region ?_
      refine JL_q (wants_none rfl) rfl (ex_fieldAddr fi_28_2 rfl rfl) ?_
      refine JL_q (wants_none rfl) rfl (ex_load_bx 1 ti_26 rfl rfl rfl) ?_
      refine JL_q (wants_none rfl) rfl (ex_move rfl) ?_
      refine JL_bnd fun y15 hy16 => ?_
      refine JL_st (wants_none rfl) rfl (st_index 0 Try.underlying26 ti_97 rfl rfl rfl hy16) (fun q17 => ?_)
      refine JL_st (wants_none rfl) rfl (st_load_pt_o 0 (GRule.opens _) ti_97 rfl rfl) (fun _ => ?_)
      refine JL_st (wants_none rfl) rfl (st_alloc zi_97 rfl) (fun b19 => ?_)
      refine JL_sk (wants_none rfl) (sk_store_bx' 0 ti_97 rfl rfl (fun w hh => (cv_aggs ⟨cv_int, cv_int, cv_int, trivial⟩)) rfl rfl rfl rfl) ?_
      refine JL_nil ?_
      refine N_then ?_
      refine J_seq ?_
      refine J_seq ?_
      refine J_region ?_
      refine JL_q (wants_none rfl) rfl (ex_move rfl) ?_
      refine JL_q (wants_none rfl) rfl (ex_eql rfl rfl) ?_
      refine JL_nil ?_
      refine N_then ?_
      refine J_if rfl (fun h20 => ?_) (fun h20 => ?_)
      · refine J_seq ?_
        refine J_draw [4] (by kernel_rfl) ?_
        refine JP_take (i := 0) [0, 1, 2, 3] [4] rfl (by kernel_rfl) (by kernel_rfl) (by kernel_rfl) rfl rfl (wants_none rfl) rfl (ex_fieldAddr fi_97_0 rfl rfl) ?_
        refine JP_take (i := 1) [0, 1, 2, 3] [4] rfl (by kernel_rfl) (by kernel_rfl) (by kernel_rfl) rfl rfl (wants_none rfl) rfl (ex_load_bx 0 ti_2 rfl rfl rfl) ?_
        refine JP_take (i := 2) [0, 1, 2, 3] [4] rfl (by kernel_rfl) (by kernel_rfl) (by kernel_rfl) rfl rfl (wants_none rfl) rfl (ex_fieldAddr fi_97_1 rfl rfl) ?_
        refine JP_take (i := 3) [0, 1, 2, 3] [4] rfl (by kernel_rfl) (by kernel_rfl) (by kernel_rfl) rfl rfl (wants_none rfl) rfl (ex_load_bx 0 ti_2 rfl rfl rfl) ?_
        refine JP_take (i := 4) [0, 1, 2, 3] [4] rfl (by kernel_rfl) (by kernel_rfl) (by kernel_rfl) rfl rfl (wants_none rfl) rfl (ex_fieldAddr fi_97_2 rfl rfl) ?_
        refine JP_take (i := 5) [0, 1, 2, 3] [4] rfl (by kernel_rfl) (by kernel_rfl) (by kernel_rfl) rfl rfl (wants_none rfl) rfl (ex_load_bx 0 ti_2 rfl rfl rfl) ?_
        refine JP_go [0, 1, 2, 3] [4] rfl rfl rfl (fun w22 h1_23 hp21 => ?_)
        refine JD_bnd fun r24 hr25 => ?_
        refine JD_one (i := 6) (by kernel_rfl) ?_
        refine JO_call rfl (wants_none rfl) rfl Try.call57 rfl (Ca_of0 fun w hh => c_impl_startOf _ w (fun _ hk => hk.elim) _ _ hr25) (fun _ => ?_)
        refine JD_take (i := 7) hp21 rfl (by kernel_rfl) (by kernel_rfl) (by kernel_rfl) (wants_none rfl) rfl (ex_buildN [(0, .int .i64 y15.Write, [.int .i64 y15.Write]), (1, .int .i64 y15.Move, [.int .i64 y15.Move]), (2, .agg #[.int .i64 r24.kind, .int .i64 r24.a, .int .i64 r24.b, .int .i64 r24.c], [.int .i64 r24.kind, .int .i64 r24.a, .int .i64 r24.b, .int .i64 r24.c])] si_107 rfl (.cons fi_107_0 rfl rfl rfl (.cons fi_107_1 rfl rfl rfl (.cons fi_107_2 rfl rfl rfl .nil))) (fun w hh => ⟨cv_int, cv_int, (cv_aggs ⟨cv_int, cv_int, cv_int, cv_int, trivial⟩), trivial⟩)) ?_
        refine JD_one (i := 8) (by kernel_rfl) ?_
        refine JO_sk rfl (wants_none rfl) (sk_store_bx' 4 ti_107 rfl rfl (fun w hh => (cv_aggs ⟨cv_int, cv_int, cv_int, cv_int, cv_int, cv_int, cv_bool, trivial⟩)) rfl rfl rfl rfl) (sub_bx 0 rfl) ?_
        refine JD_done (by kernel_rfl) ?_
        refine N_then ?_
        refine J_ret ?_
        refine N_then_ret ?_
        exact N_ret1 rfl (rv_cell 4 rfl rfl ti_107 rfl) (fun w hh => ⟨(), rfl, hh.sel [] rfl⟩)
      · refine J_skip ?_
        refine N_then ?_
        refine J_seq ?_
        refine J_region ?_
        refine JL_q (wants_none rfl) rfl (ex_fieldAddr fi_97_0 rfl rfl) ?_
        refine JL_q (wants_none rfl) rfl (ex_load_bx 0 ti_2 rfl rfl rfl) ?_
        refine JL_q (wants_none rfl) rfl (ex_move rfl) ?_
        refine JL_q (wants_none rfl) rfl (ex_move rfl) ?_
        refine JL_q (wants_none rfl) rfl (ex_sub rfl rfl) ?_
        refine JL_bnd fun r26 hr27 => ?_
        refine JL_call (wants_none rfl) rfl Try.call77 rfl (Ca_of0 fun w hh => c_impl_bitAt _ w (fun _ hk => hk.elim) _ _ _ _ hr27) (fun _ => ?_)
        refine JL_q (wants_none rfl) rfl (ex_move rfl) ?_
        refine JL_q (wants_none rfl) rfl (ex_move rfl) ?_
        refine JL_q (wants_none rfl) rfl (ex_sub rfl rfl) ?_
        refine JL_q (wants_none rfl) rfl (ex_build si_60 rfl (.cons fi_60_0 rfl rfl (.cons fi_60_1 rfl rfl (.cons fi_60_2 rfl rfl .nil))) (fun w hh => ⟨cv_int, cv_int, cv_int, trivial⟩)) ?_
        refine JL_q (wants_none rfl) rfl (ex_buildN [(0, .int .i64 r26, [.int .i64 r26]), (1, .int .i64 (-1), [.int .i64 (-1)]), (2, .agg #[.int .i64 1, .int .i64 (w64 ((w64 (p2.a * p0.Symbols)) + (w64 ((w64 (2 * p2.c)) + p3)))), .int .i64 (w64 (p1 - 2)), .int .i64 0], [.int .i64 1, .int .i64 (w64 ((w64 (p2.a * p0.Symbols)) + (w64 ((w64 (2 * p2.c)) + p3)))), .int .i64 (w64 (p1 - 2)), .int .i64 0])] si_107 rfl (.cons fi_107_0 rfl rfl rfl (.cons fi_107_1 rfl rfl rfl (.cons fi_107_2 rfl rfl rfl .nil))) (fun w hh => ⟨cv_int, cv_int, (cv_aggs ⟨cv_int, cv_int, cv_int, cv_int, trivial⟩), trivial⟩)) ?_
        refine JL_sk (wants_none rfl) (sk_store_bx' 4 ti_107 rfl rfl (fun w hh => (cv_aggs ⟨cv_int, cv_int, cv_int, cv_int, cv_int, cv_int, cv_bool, trivial⟩)) rfl rfl rfl rfl) ?_
        refine JL_nil ?_
        refine N_then ?_
        refine J_ret ?_
        exact N_ret1 rfl (rv_cell 4 rfl rfl ti_107 rfl) (fun w hh => ⟨(), rfl, hh.sel [] rfl⟩)

set_option maxHeartbeats 40000000 in
theorem c_impl_binary_1 (A : Nat → Prop) (w : World) (hA : ∀ k, A k → k < w.heap.size) (v0_ : Value) (p0 : GbitPlace) (hp0 : Rd A w v0_ p0) (p1 : Int) (v2_ : Value) (p2 : GMachine) (hp2 : RdA A w.heap.size w v2_ p2) (v3_ : Value) (p3 : Int) (hp3 : RdA A w.heap.size w v3_ p3) (r : Gaction_bitPlace) (hr : F_impl_binary_1 p0 p1 p2 p3 = some r) :
    Con Try.prog 75 [v0_, .int .i64 p1, v2_, v3_] A w (fun x_ : Unit => .agg #[.int .i64 r.write, .int .i64 r.move, .int .i64 r.next_kind, .int .i64 r.next_a, .int .i64 r.next_b, .int .i64 r.next_c, .bool r.none]) (fun x_ => []) := by
  obtain rfl := GbitPlace.open hp0
  refine Con_of (v := fun (r : Gaction_bitPlace) (x_ : Unit) => .agg #[.int .i64 r.write, .int .i64 r.move, .int .i64 r.next_kind, .int .i64 r.next_a, .int .i64 r.next_b, .int .i64 r.next_c, .bool r.none]) (fs := fun r x_ => []) Try.func75 rfl Try.ntmps75 rfl (((SH.start hA).start_pa' rfl hp2).start_pa' rfl hp3) rfl ?_ hr
  unfold F_impl_binary_1
  refine J_seq ?_
  refine J_region ?_
  refine JL_st (wants_none rfl) rfl (st_box' rfl (fun w hh => (cv_aggs ⟨cv_int, cv_int, cv_int, cv_int, trivial⟩))) (fun b1 => ?_)
  refine JL_st (wants_none rfl) rfl (st_alloc zi_107 rfl) (fun b2 => ?_)
  refine JL_nil ?_
  refine N_then ?_
  refine J_seq ?_
  refine J_seq ?_
  refine J_region ?_
  refine JL_q (wants_none rfl) rfl (ex_fieldAddr fi_60_0 rfl rfl) ?_
  refine JL_q (wants_none rfl) rfl (ex_load_bx 1 ti_2 rfl rfl rfl) ?_
  refine JL_nil ?_
  refine N_then ?_
  refine J_block ?_
  refine J_seq ?_
  refine J_region ?_
  refine JL_q (wants_none rfl) rfl (ex_eql rfl rfl) ?_
  refine JL_q (wants_none rfl) rfl (ex_assign rfl) ?_
  refine JL_nil ?_
  refine N_then ?_
  refine J_if rfl (fun h3 => ?_) (fun h3 => ?_)
  · refine J_seq ?_
    refine J_region ?_
    refine JL_st (wants_none rfl) rfl (st_load_pa_o 3 (GMachine.opens _) ti_28 rfl rfl) (fun v4 => ?_)
    refine JL_st (wants_none rfl) rfl (st_load_pa_o 3 (opens_int _) ti_2 rfl rfl) (fun _ => ?_)
    refine JL_q (wants_none rfl) rfl (ex_load_bx_agg 2 ti_60 rfl rfl rfl rfl) ?_
    refine JL_q (wants_none rfl) rfl (ex_move rfl) ?_
    refine JL_bnd fun r6 hr7 => ?_
    refine JL_call (wants_none rfl) rfl Try.call76 rfl (Ca_of0 fun w hh => c_impl_readBit _ w (fun _ hk => hk.elim) _ _ (GMachine.rdmk (Rd.mk_int _ _ _) (Rd.mk_int _ _ _) (hh.rd0 0 rfl)) _ _ _ (GbitPlace.rdmk (Rd.mk_int _ _ _) (Rd.mk_int _ _ _) (Rd.mk_int _ _ _) (Rd.mk_int _ _ _)) _ _ hr7) (fun _ => ?_)
    refine JL_sk (wants_none rfl) (sk_store_bx' 1 ti_107 rfl rfl (fun w hh => (cv_aggs ⟨cv_int, cv_int, cv_int, cv_int, cv_int, cv_int, cv_bool, trivial⟩)) rfl rfl rfl rfl) ?_
    refine JL_nil ?_
    refine N_then ?_
    refine J_ret ?_
    refine N_block_ret ?_
    refine N_then_ret ?_
    exact N_ret1 rfl (rv_cell 1 rfl rfl ti_107 rfl) (fun w hh => ⟨(), rfl, hh.sel [] rfl⟩)
  · refine J_seq ?_
    refine J_region ?_
    refine JL_q (wants_none rfl) rfl (ex_eql rfl rfl) ?_
    refine JL_q (wants_none rfl) rfl (ex_assign rfl) ?_
    refine JL_nil ?_
    refine N_then ?_
    refine J_if rfl (fun h8 => ?_) (fun h8 => ?_)
    · refine J_seq ?_
      refine J_region ?_
      refine JL_st (wants_none rfl) rfl (st_field_pa 3 (GMachine.at_Rules _) fi_28_2 rfl rfl rfl) (fun q9 => ?_)
      refine JL_st (wants_none rfl) rfl (st_load_pa_o 0 (opens_sl _) ti_26 rfl rfl) (fun v10 => ?_)
      refine JL_q (wants_none rfl) rfl (ex_fieldAddr fi_60_1 rfl rfl) ?_
      refine JL_q (wants_none rfl) rfl (ex_load_bx 3 ti_2 rfl rfl rfl) ?_
      refine JL_bnd fun y11 hy12 => ?_
      refine JL_st (wants_none rfl) rfl (st_index 0 Try.underlying26 ti_97 rfl rfl rfl hy12) (fun q13 => ?_)
      refine JL_st (wants_none rfl) rfl (st_load_pt_o 0 (GRule.opens _) ti_97 rfl rfl) (fun _ => ?_)
      refine JL_st (wants_none rfl) rfl (st_alloc zi_97 rfl) (fun b15 => ?_)
      refine JL_sk (wants_none rfl) (sk_store_bx' 0 ti_97 rfl rfl (fun w hh => (cv_aggs ⟨cv_int, cv_int, cv_int, trivial⟩)) rfl rfl rfl rfl) ?_
      refine JL_nil ?_
      refine N_then ?_
      refine J_seq ?_
      refine J_region ?_
      refine JL_q (wants_none rfl) rfl (ex_fieldAddr fi_97_0 rfl rfl) ?_
      refine JL_q (wants_none rfl) rfl (ex_load_bx 0 ti_2 rfl rfl rfl) ?_
      refine JL_st (wants_none rfl) rfl (st_load_pa_o 6 (opens_int _) ti_2 rfl rfl) (fun _ => ?_)
      refine JL_q (wants_none rfl) rfl (ex_fieldAddr fi_60_2 rfl rfl) ?_
      refine JL_q (wants_none rfl) rfl (ex_load_bx 5 ti_2 rfl rfl rfl) ?_
      refine JL_bnd fun r17 hr18 => ?_
      refine JL_call (wants_none rfl) rfl Try.call77 rfl (Ca_of0 fun w hh => c_impl_bitAt _ w (fun _ hk => hk.elim) _ _ _ _ hr18) (fun _ => ?_)
      refine JL_q (wants_none rfl) rfl (ex_assign rfl) ?_
      refine JL_nil ?_
      refine N_then ?_
      refine J_seq ?_
      refine J_seq ?_
      refine J_region ?_
      refine JL_q (wants_none rfl) rfl (ex_fieldAddr fi_60_2 rfl rfl) ?_
      refine JL_q (wants_none rfl) rfl (ex_load_bx 5 ti_2 rfl rfl rfl) ?_
      refine JL_q (wants_none rfl) rfl (ex_gtr rfl rfl) ?_
      refine JL_nil ?_
      refine N_then ?_
      refine J_if rfl (fun h19 => ?_) (fun h19 => ?_)
      · refine J_seq ?_
        refine J_region ?_
        refine JL_q (wants_none rfl) rfl (ex_move rfl) ?_
        refine JL_q (wants_none rfl) rfl (ex_fieldAddr fi_60_1 rfl rfl) ?_
        refine JL_q (wants_none rfl) rfl (ex_load_bx 5 ti_2 rfl rfl rfl) ?_
        refine JL_q (wants_none rfl) rfl (ex_fieldAddr fi_60_2 rfl rfl) ?_
        refine JL_q (wants_none rfl) rfl (ex_load_bx 5 ti_2 rfl rfl rfl) ?_
        refine JL_q (wants_none rfl) rfl (ex_sub rfl rfl) ?_
        refine JL_q (wants_none rfl) rfl (ex_build si_60 rfl (.cons fi_60_0 rfl rfl (.cons fi_60_1 rfl rfl (.cons fi_60_2 rfl rfl .nil))) (fun w hh => ⟨cv_int, cv_int, cv_int, trivial⟩)) ?_
        refine JL_q (wants_none rfl) rfl (ex_buildN [(0, .int .i64 r17, [.int .i64 r17]), (1, .int .i64 (-1), [.int .i64 (-1)]), (2, .agg #[.int .i64 1, .int .i64 p0.a, .int .i64 (w64 (p0.b - 1)), .int .i64 0], [.int .i64 1, .int .i64 p0.a, .int .i64 (w64 (p0.b - 1)), .int .i64 0])] si_107 rfl (.cons fi_107_0 rfl rfl rfl (.cons fi_107_1 rfl rfl rfl (.cons fi_107_2 rfl rfl rfl .nil))) (fun w hh => ⟨cv_int, cv_int, (cv_aggs ⟨cv_int, cv_int, cv_int, cv_int, trivial⟩), trivial⟩)) ?_
        refine JL_sk (wants_none rfl) (sk_store_bx' 4 ti_107 rfl rfl (fun w hh => (cv_aggs ⟨cv_int, cv_int, cv_int, cv_int, cv_int, cv_int, cv_bool, trivial⟩)) rfl rfl rfl rfl) ?_
        refine JL_nil ?_
        refine N_then ?_
        refine J_ret ?_
        refine N_then_ret ?_
        refine N_block_ret ?_
        refine N_then_ret ?_
        exact N_ret1 rfl (rv_cell 4 rfl rfl ti_107 rfl) (fun w hh => ⟨(), rfl, hh.sel [] rfl⟩)
      · refine J_skip ?_
        refine N_then ?_
        refine J_seq ?_
        refine J_region ?_
        refine JL_q (wants_none rfl) rfl (ex_move rfl) ?_
        refine JL_q (wants_none rfl) rfl (ex_fieldAddr fi_97_1 rfl rfl) ?_
        refine JL_q (wants_none rfl) rfl (ex_load_bx 0 ti_2 rfl rfl rfl) ?_
        refine JL_q (wants_none rfl) rfl (ex_fieldAddr fi_60_1 rfl rfl) ?_
        refine JL_q (wants_none rfl) rfl (ex_load_bx 5 ti_2 rfl rfl rfl) ?_
        refine JL_st (wants_none rfl) rfl (st_load_pa_o 6 (opens_int _) ti_2 rfl rfl) (fun _ => ?_)
        refine JL_q (wants_none rfl) rfl (ex_sub rfl rfl) ?_
        refine JL_q (wants_none rfl) rfl (ex_build si_60 rfl (.cons fi_60_0 rfl rfl (.cons fi_60_1 rfl rfl (.cons fi_60_2 rfl rfl .nil))) (fun w hh => ⟨cv_int, cv_int, cv_int, trivial⟩)) ?_
        refine JL_q (wants_none rfl) rfl (ex_buildN [(0, .int .i64 r17, [.int .i64 r17]), (1, .int .i64 y11.Move, [.int .i64 y11.Move]), (2, .agg #[.int .i64 2, .int .i64 p0.a, .int .i64 (w64 (p3 - 1)), .int .i64 0], [.int .i64 2, .int .i64 p0.a, .int .i64 (w64 (p3 - 1)), .int .i64 0])] si_107 rfl (.cons fi_107_0 rfl rfl rfl (.cons fi_107_1 rfl rfl rfl (.cons fi_107_2 rfl rfl rfl .nil))) (fun w hh => ⟨cv_int, cv_int, (cv_aggs ⟨cv_int, cv_int, cv_int, cv_int, trivial⟩), trivial⟩)) ?_
        refine JL_sk (wants_none rfl) (sk_store_bx' 4 ti_107 rfl rfl (fun w hh => (cv_aggs ⟨cv_int, cv_int, cv_int, cv_int, cv_int, cv_int, cv_bool, trivial⟩)) rfl rfl rfl rfl) ?_
        refine JL_nil ?_
        refine N_then ?_
        refine J_ret ?_
        refine N_block_ret ?_
        refine N_then_ret ?_
        exact N_ret1 rfl (rv_cell 4 rfl rfl ti_107 rfl) (fun w hh => ⟨(), rfl, hh.sel [] rfl⟩)
    · refine J_skip ?_
      refine N_block ?_
      refine N_then ?_
      refine J_seq ?_
      refine J_region ?_
      refine JL_st (wants_none rfl) rfl (st_field_pa 3 (GMachine.at_Rules _) fi_28_2 rfl rfl rfl) (fun q21 => ?_)
      refine JL_st (wants_none rfl) rfl (st_load_pa_o 0 (opens_sl _) ti_26 rfl rfl) (fun v22 => ?_)
      refine JL_q (wants_none rfl) rfl (ex_fieldAddr fi_60_1 rfl rfl) ?_
      refine JL_q (wants_none rfl) rfl (ex_load_bx 3 ti_2 rfl rfl rfl) ?_
      refine JL_bnd fun y23 hy24 => ?_
      refine JL_st (wants_none rfl) rfl (st_index 0 Try.underlying26 ti_97 rfl rfl rfl hy24) (fun q25 => ?_)
      refine JL_st (wants_none rfl) rfl (st_load_pt_o 0 (GRule.opens _) ti_97 rfl rfl) (fun _ => ?_)
      refine JL_st (wants_none rfl) rfl (st_alloc zi_97 rfl) (fun b27 => ?_)
      refine JL_sk (wants_none rfl) (sk_store_bx' 0 ti_97 rfl rfl (fun w hh => (cv_aggs ⟨cv_int, cv_int, cv_int, trivial⟩)) rfl rfl rfl rfl) ?_
      refine JL_nil ?_
      refine N_then ?_
      refine J_seq ?_
      refine J_region ?_
      refine JL_q (wants_none rfl) rfl (ex_fieldAddr fi_60_1 rfl rfl) ?_
      refine JL_q (wants_none rfl) rfl (ex_load_bx 5 ti_2 rfl rfl rfl) ?_
      refine JL_q (wants_none rfl) rfl (ex_fieldAddr fi_60_2 rfl rfl) ?_
      refine JL_q (wants_none rfl) rfl (ex_load_bx 5 ti_2 rfl rfl rfl) ?_
      refine JL_q (wants_none rfl) rfl (ex_sub rfl rfl) ?_
      refine JL_q (wants_none rfl) rfl (ex_build si_60 rfl (.cons fi_60_0 rfl rfl (.cons fi_60_1 rfl rfl (.cons fi_60_2 rfl rfl .nil))) (fun w hh => ⟨cv_int, cv_int, cv_int, trivial⟩)) ?_
      refine JL_st (wants_none rfl) rfl (st_alloc zi_60 rfl) (fun b28 => ?_)
      refine JL_sk (wants_none rfl) (sk_store_bx' 0 ti_60 rfl rfl (fun w hh => (cv_aggs ⟨cv_int, cv_int, cv_int, cv_int, trivial⟩)) rfl rfl rfl rfl) ?_
      refine JL_nil ?_
      refine N_then ?_
      refine J_seq ?_
      refine J_seq ?_
      refine J_region ?_
      refine JL_q (wants_none rfl) rfl (ex_fieldAddr fi_60_2 rfl rfl) ?_
      refine JL_q (wants_none rfl) rfl (ex_load_bx 6 ti_2 rfl rfl rfl) ?_
      refine JL_q (wants_none rfl) rfl (ex_eql rfl rfl) ?_
      refine JL_nil ?_
      refine N_then ?_
      refine J_if rfl (fun h29 => ?_) (fun h29 => ?_)
      · refine J_region ?_
        refine JL_q (wants_none rfl) rfl (ex_fieldAddr fi_97_2 rfl rfl) ?_
        refine JL_q (wants_none rfl) rfl (ex_load_bx 1 ti_2 rfl rfl rfl) ?_
        refine JL_bnd fun r30 hr31 => ?_
        refine JL_call (wants_none rfl) rfl Try.call57 rfl (Ca_of0 fun w hh => c_impl_startOf _ w (fun _ hk => hk.elim) _ _ hr31) (fun _ => ?_)
        refine JL_sk (wants_none rfl) (sk_store_bx' 0 ti_60 rfl rfl (fun w hh => (cv_aggs ⟨cv_int, cv_int, cv_int, cv_int, trivial⟩)) rfl rfl rfl rfl) ?_
        refine JL_nil ?_
        refine N_then ?_
        refine J_seq ?_
        refine J_region ?_
        refine JL_q (wants_none rfl) rfl (ex_move rfl) ?_
        refine JL_q (wants_none rfl) rfl (ex_fieldAddr fi_97_1 rfl rfl) ?_
        refine JL_q (wants_none rfl) rfl (ex_load_bx 1 ti_2 rfl rfl rfl) ?_
        refine JL_q (wants_none rfl) rfl (ex_load_bx_agg 0 ti_60 rfl rfl rfl rfl) ?_
        refine JL_q (wants_none rfl) rfl (ex_buildN [(0, .int .i64 p1, [.int .i64 p1]), (1, .int .i64 y23.Move, [.int .i64 y23.Move]), (2, .agg #[.int .i64 r30.kind, .int .i64 r30.a, .int .i64 r30.b, .int .i64 r30.c], [.int .i64 r30.kind, .int .i64 r30.a, .int .i64 r30.b, .int .i64 r30.c])] si_107 rfl (.cons fi_107_0 rfl rfl rfl (.cons fi_107_1 rfl rfl rfl (.cons fi_107_2 rfl rfl rfl .nil))) (fun w hh => ⟨cv_int, cv_int, (cv_aggs ⟨cv_int, cv_int, cv_int, cv_int, trivial⟩), trivial⟩)) ?_
        refine JL_sk (wants_none rfl) (sk_store_bx' 5 ti_107 rfl rfl (fun w hh => (cv_aggs ⟨cv_int, cv_int, cv_int, cv_int, cv_int, cv_int, cv_bool, trivial⟩)) rfl rfl rfl rfl) ?_
        refine JL_nil ?_
        refine N_then ?_
        refine J_ret ?_
        exact N_ret1 rfl (rv_cell 5 rfl rfl ti_107 rfl) (fun w hh => ⟨(), rfl, hh.sel [] rfl⟩)
      · refine J_skip ?_
        refine N_then ?_
        refine J_seq ?_
        refine J_region ?_
        refine JL_q (wants_none rfl) rfl (ex_move rfl) ?_
        refine JL_q (wants_none rfl) rfl (ex_fieldAddr fi_97_1 rfl rfl) ?_
        refine JL_q (wants_none rfl) rfl (ex_load_bx 1 ti_2 rfl rfl rfl) ?_
        refine JL_q (wants_none rfl) rfl (ex_load_bx_agg 0 ti_60 rfl rfl rfl rfl) ?_
        refine JL_q (wants_none rfl) rfl (ex_buildN [(0, .int .i64 p1, [.int .i64 p1]), (1, .int .i64 y23.Move, [.int .i64 y23.Move]), (2, .agg #[.int .i64 2, .int .i64 p0.a, .int .i64 (w64 (p0.b - 1)), .int .i64 0], [.int .i64 2, .int .i64 p0.a, .int .i64 (w64 (p0.b - 1)), .int .i64 0])] si_107 rfl (.cons fi_107_0 rfl rfl rfl (.cons fi_107_1 rfl rfl rfl (.cons fi_107_2 rfl rfl rfl .nil))) (fun w hh => ⟨cv_int, cv_int, (cv_aggs ⟨cv_int, cv_int, cv_int, cv_int, trivial⟩), trivial⟩)) ?_
        refine JL_sk (wants_none rfl) (sk_store_bx' 5 ti_107 rfl rfl (fun w hh => (cv_aggs ⟨cv_int, cv_int, cv_int, cv_int, cv_int, cv_int, cv_bool, trivial⟩)) rfl rfl rfl rfl) ?_
        refine JL_nil ?_
        refine N_then ?_
        refine J_ret ?_
        exact N_ret1 rfl (rv_cell 5 rfl rfl ti_107 rfl) (fun w hh => ⟨(), rfl, hh.sel [] rfl⟩)

set_option maxHeartbeats 40000000 in
theorem c_impl_size_impl_bitPlace (A : Nat → Prop) (w : World) (hA : ∀ k, A k → k < w.heap.size) (v0_ : Value) (p0 : (List GbitPlace)) (hp0 : Rd A w v0_ p0) (r : Int) (hr : F_impl_size_impl_bitPlace p0 = some r) :
    Con Try.prog 98 [v0_] A w (fun x_ : Unit => .int .i64 r) (fun x_ => []) := by
  refine Con_of (v := fun (r : Int) (x_ : Unit) => .int .i64 r) (fs := fun r x_ => []) Try.func98 rfl Try.ntmps98 rfl ((SH.start hA).start_rd rfl hp0) rfl ?_ hr
  unfold F_impl_size_impl_bitPlace
  refine J_seq ?_
  refine J_region ?_
  refine JL_q (wants_none rfl) rfl (ex_assign rfl) ?_
  refine JL_nil ?_
  refine N_then ?_
  refine J_seq ?_
  refine J_region ?_
  refine JL_q (wants_none rfl) rfl (ex_move rfl) ?_
  refine JL_q (wants_none rfl) rfl (ex_len_rd 0 Try.underlying89 rfl rfl) ?_
  refine JL_q (wants_none rfl) rfl (ex_assign rfl) ?_
  refine JL_nil ?_
  refine N_then ?_
  refine J_ret ?_
  exact N_ret1 rfl (rv_tmp rfl) (fun w hh => ⟨(), rfl, hh.sel [] rfl⟩)

end Go.Proofs.Ytceimgjcikkadaa
