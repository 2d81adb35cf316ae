/-
  Each function of the program computes what its plain function says: printed by program. No condition.
-/
import Derived.Test.YtcjokkoiakjajaaFn
import Derived.Test.YtcjokkoiakjajaaInf
import Derived.Test.YtcjokkoiakjajaaCon1
import Derived.Test.YtcjokkoiakjajaaCon2
namespace Go.Proofs.Ytcjokkoiakjajaa
open Go Go.Tc Go.Fn
set_option linter.unusedVariables false

set_option maxHeartbeats 40000000 in
theorem c_laws_eqMulti (A : Nat → Prop) (w : World) (hA : ∀ k, A k → k < w.heap.size) (v0_ : Value) (p0 : GMulti) (hp0 : Rd A w v0_ p0) (v1_ : Value) (p1 : GMulti) (hp1 : Rd A w v1_ p1) (r : Bool) (hr : F_laws_eqMulti p0 p1 = some r) :
    Con Try.prog 10 [v0_, v1_] A w (fun x_ : Unit => .bool r) (fun x_ => []) := by
  obtain ⟨v0_0, rfl, hp0_0⟩ := GMulti.open hp0
  obtain ⟨v1_0, rfl, hp1_0⟩ := GMulti.open hp1
  refine Con_of (v := fun (r : Bool) (x_ : Unit) => .bool r) (fs := fun r x_ => []) Try.func10 rfl Try.ntmps10 rfl (((SH.start hA).start_rd rfl hp0_0).start_rd rfl hp1_0) rfl ?_ hr
  unfold F_laws_eqMulti
  refine J_seq ?_
  refine J_region ?_
  refine JL_st (wants_none rfl) rfl (st_box' rfl (fun w hh => (cv_aggs ⟨cv_int, cv_int, cv_int, (hh.cv 1 rfl), trivial⟩))) (fun b1 => ?_)
  refine JL_st (wants_none rfl) rfl (st_box' rfl (fun w hh => (cv_aggs ⟨cv_int, cv_int, cv_int, (hh.cv 1 rfl), trivial⟩))) (fun b2 => ?_)
  refine JL_q (wants_none rfl) rfl (ex_assign rfl) ?_
  refine JL_nil ?_
  refine N_then ?_
  refine J_seq ?_
  refine J_seq ?_
  refine J_region ?_
  refine JL_q (wants_none rfl) rfl (ex_fieldAddr fi_34_0 rfl rfl) ?_
  refine JL_q (wants_none rfl) rfl (ex_load_bx 1 ti_2 rfl rfl rfl) ?_
  refine JL_q (wants_none rfl) rfl (ex_fieldAddr fi_34_0 rfl rfl) ?_
  refine JL_q (wants_none rfl) rfl (ex_load_bx 0 ti_2 rfl rfl rfl) ?_
  refine JL_q (wants_none rfl) rfl (ex_neq rfl rfl) ?_
  refine JL_nil ?_
  refine N_then ?_
  refine J_if rfl (fun h3 => ?_) (fun h3 => ?_)
  · refine J_seq ?_
    refine J_region ?_
    refine JL_q (wants_none rfl) rfl (ex_assign rfl) ?_
    refine JL_nil ?_
    refine N_then ?_
    refine J_ret ?_
    refine N_then_ret ?_
    exact N_ret1 rfl (rv_tmp rfl) (fun w hh => ⟨(), rfl, hh.sel [] rfl⟩)
  · refine J_skip ?_
    refine N_then ?_
    refine J_seq ?_
    refine J_seq ?_
    refine J_region ?_
    refine JL_q (wants_none rfl) rfl (ex_fieldAddr fi_34_1 rfl rfl) ?_
    refine JL_q (wants_none rfl) rfl (ex_load_bx 1 ti_2 rfl rfl rfl) ?_
    refine JL_q (wants_none rfl) rfl (ex_fieldAddr fi_34_1 rfl rfl) ?_
    refine JL_q (wants_none rfl) rfl (ex_load_bx 0 ti_2 rfl rfl rfl) ?_
    refine JL_q (wants_none rfl) rfl (ex_neq rfl rfl) ?_
    refine JL_nil ?_
    refine N_then ?_
    refine J_if rfl (fun h4 => ?_) (fun h4 => ?_)
    · refine J_seq ?_
      refine J_region ?_
      refine JL_q (wants_none rfl) rfl (ex_assign rfl) ?_
      refine JL_nil ?_
      refine N_then ?_
      refine J_ret ?_
      refine N_then_ret ?_
      exact N_ret1 rfl (rv_tmp rfl) (fun w hh => ⟨(), rfl, hh.sel [] rfl⟩)
    · refine J_skip ?_
      refine N_then ?_
      refine J_seq ?_
      refine J_seq ?_
      refine J_region ?_
      refine JL_q (wants_none rfl) rfl (ex_fieldAddr fi_34_2 rfl rfl) ?_
      refine JL_q (wants_none rfl) rfl (ex_load_bx 1 ti_2 rfl rfl rfl) ?_
      refine JL_q (wants_none rfl) rfl (ex_fieldAddr fi_34_2 rfl rfl) ?_
      refine JL_q (wants_none rfl) rfl (ex_load_bx 0 ti_2 rfl rfl rfl) ?_
      refine JL_q (wants_none rfl) rfl (ex_neq rfl rfl) ?_
      refine JL_nil ?_
      refine N_then ?_
      refine J_if rfl (fun h5 => ?_) (fun h5 => ?_)
      · refine J_seq ?_
        refine J_region ?_
        refine JL_q (wants_none rfl) rfl (ex_assign rfl) ?_
        refine JL_nil ?_
        refine N_then ?_
        refine J_ret ?_
        refine N_then_ret ?_
        exact N_ret1 rfl (rv_tmp rfl) (fun w hh => ⟨(), rfl, hh.sel [] rfl⟩)
      · refine J_skip ?_
        refine N_then ?_
        refine J_seq ?_
        refine J_seq ?_
        refine J_region ?_
        refine JL_q (wants_none rfl) rfl (ex_fieldAddr fi_34_3 rfl rfl) ?_
        refine JL_q (wants_none rfl) rfl (ex_load_bx 1 ti_32 rfl rfl rfl) ?_
        refine JL_q (wants_none rfl) rfl (ex_fieldAddr fi_34_3 rfl rfl) ?_
        refine JL_q (wants_none rfl) rfl (ex_load_bx 0 ti_32 rfl rfl rfl) ?_
        refine JL_bnd fun r6 hr7 => ?_
        refine JL_call (wants_none rfl) rfl Try.call22 rfl (Ca_of0 fun w hh => c_laws_eqMultiRuleS _ w (fun _ hk => hk.elim) _ _ (hh.rd0 3 rfl) _ _ (hh.rd0 2 rfl) _ hr7) (fun _ => ?_)
        refine JL_q (wants_none rfl) rfl (ex_not rfl) ?_
        refine JL_nil ?_
        refine N_then ?_
        refine J_if rfl (fun h8 => ?_) (fun h8 => ?_)
        · refine J_seq ?_
          refine J_region ?_
          refine JL_q (wants_none rfl) rfl (ex_assign rfl) ?_
          refine JL_nil ?_
          refine N_then ?_
          refine J_ret ?_
          refine N_then_ret ?_
          exact N_ret1 rfl (rv_tmp rfl) (fun w hh => ⟨(), rfl, hh.sel [] rfl⟩)
        · refine J_skip ?_
          refine N_then ?_
          refine J_seq ?_
          refine J_region ?_
          refine JL_q (wants_none rfl) rfl (ex_assign rfl) ?_
          refine JL_nil ?_
          refine N_then ?_
          refine J_ret ?_
          exact N_ret1 rfl (rv_tmp rfl) (fun w hh => ⟨(), rfl, hh.sel [] rfl⟩)

set_option maxHeartbeats 40000000 in
theorem c_laws_eqTape (A : Nat → Prop) (w : World) (hA : ∀ k, A k → k < w.heap.size) (v0_ : Value) (p0 : GTape) (hp0 : Rd A w v0_ p0) (v1_ : Value) (p1 : GTape) (hp1 : Rd A w v1_ p1) (r : Bool) (hr : F_laws_eqTape p0 p1 = some r) :
    Con Try.prog 41 [v0_, v1_] A w (fun x_ : Unit => .bool r) (fun x_ => []) := by
  obtain ⟨v0_0, v0_1, rfl, hp0_0, hp0_1⟩ := GTape.open hp0
  obtain ⟨v1_0, v1_1, rfl, hp1_0, hp1_1⟩ := GTape.open hp1
  refine Con_of (v := fun (r : Bool) (x_ : Unit) => .bool r) (fs := fun r x_ => []) Try.func41 rfl Try.ntmps41 rfl (((((SH.start hA).start_rd rfl hp0_0).start_rd rfl hp0_1).start_rd rfl hp1_0).start_rd rfl hp1_1) rfl ?_ hr
  unfold F_laws_eqTape
  refine J_seq ?_
  refine J_region ?_
  refine JL_st (wants_none rfl) rfl (st_box' rfl (fun w hh => (cv_aggs ⟨(hh.cv 3 rfl), (hh.cv 2 rfl), trivial⟩))) (fun b1 => ?_)
  refine JL_st (wants_none rfl) rfl (st_box' rfl (fun w hh => (cv_aggs ⟨(hh.cv 2 rfl), (hh.cv 1 rfl), trivial⟩))) (fun b2 => ?_)
  refine JL_q (wants_none rfl) rfl (ex_assign rfl) ?_
  refine JL_nil ?_
  refine N_then ?_
  refine J_seq ?_
  refine J_seq ?_
  refine J_region ?_
  refine JL_q (wants_none rfl) rfl (ex_fieldAddr fi_75_0 rfl rfl) ?_
  refine JL_q (wants_none rfl) rfl (ex_load_bx 1 ti_63 rfl rfl rfl) ?_
  refine JL_q (wants_none rfl) rfl (ex_fieldAddr fi_75_0 rfl rfl) ?_
  refine JL_q (wants_none rfl) rfl (ex_load_bx 0 ti_63 rfl rfl rfl) ?_
  refine JL_bnd fun r3 hr4 => ?_
  refine JL_call (wants_none rfl) rfl Try.call50 rfl (Ca_of0 fun w hh => c_laws_eqInt64S _ w (fun _ hk => hk.elim) _ _ (hh.rd0 5 rfl) _ _ (hh.rd0 3 rfl) _ hr4) (fun _ => ?_)
  refine JL_q (wants_none rfl) rfl (ex_not rfl) ?_
  refine JL_nil ?_
  refine N_then ?_
  refine J_if rfl (fun h5 => ?_) (fun h5 => ?_)
  · refine J_seq ?_
    refine J_region ?_
    refine JL_q (wants_none rfl) rfl (ex_assign rfl) ?_
    refine JL_nil ?_
    refine N_then ?_
    refine J_ret ?_
    refine N_then_ret ?_
    exact N_ret1 rfl (rv_tmp rfl) (fun w hh => ⟨(), rfl, hh.sel [] rfl⟩)
  · refine J_skip ?_
    refine N_then ?_
    refine J_seq ?_
    refine J_seq ?_
    refine J_region ?_
    refine JL_q (wants_none rfl) rfl (ex_fieldAddr fi_75_1 rfl rfl) ?_
    refine JL_q (wants_none rfl) rfl (ex_load_bx 1 ti_63 rfl rfl rfl) ?_
    refine JL_q (wants_none rfl) rfl (ex_fieldAddr fi_75_1 rfl rfl) ?_
    refine JL_q (wants_none rfl) rfl (ex_load_bx 0 ti_63 rfl rfl rfl) ?_
    refine JL_bnd fun r6 hr7 => ?_
    refine JL_call (wants_none rfl) rfl Try.call50 rfl (Ca_of0 fun w hh => c_laws_eqInt64S _ w (fun _ hk => hk.elim) _ _ (hh.rd0 4 rfl) _ _ (hh.rd0 2 rfl) _ hr7) (fun _ => ?_)
    refine JL_q (wants_none rfl) rfl (ex_not rfl) ?_
    refine JL_nil ?_
    refine N_then ?_
    refine J_if rfl (fun h8 => ?_) (fun h8 => ?_)
    · refine J_seq ?_
      refine J_region ?_
      refine JL_q (wants_none rfl) rfl (ex_assign rfl) ?_
      refine JL_nil ?_
      refine N_then ?_
      refine J_ret ?_
      refine N_then_ret ?_
      exact N_ret1 rfl (rv_tmp rfl) (fun w hh => ⟨(), rfl, hh.sel [] rfl⟩)
    · refine J_skip ?_
      refine N_then ?_
      refine J_seq ?_
      refine J_region ?_
      refine JL_q (wants_none rfl) rfl (ex_assign rfl) ?_
      refine JL_nil ?_
      refine N_then ?_
      refine J_ret ?_
      exact N_ret1 rfl (rv_tmp rfl) (fun w hh => ⟨(), rfl, hh.sel [] rfl⟩)

set_option maxHeartbeats 40000000 in
theorem c_laws_eqTapeS (A : Nat → Prop) (w : World) (hA : ∀ k, A k → k < w.heap.size) (v0_ : Value) (p0 : (List GTape)) (hp0 : Rd A w v0_ p0) (v1_ : Value) (p1 : (List GTape)) (hp1 : Rd A w v1_ p1) (r : Bool) (hr : F_laws_eqTapeS p0 p1 = some r) :
    Con Try.prog 23 [v0_, v1_] A w (fun x_ : Unit => .bool r) (fun x_ => []) := by
  refine Con_of (v := fun (r : Bool) (x_ : Unit) => .bool r) (fs := fun r x_ => []) Try.func23 rfl Try.ntmps23 rfl (((SH.start hA).start_rd rfl hp0).start_rd rfl hp1) rfl ?_ hr
  unfold F_laws_eqTapeS
  refine J_seq ?_
  refine J_region ?_
  refine JL_q (wants_none rfl) rfl (ex_assign rfl) ?_
  refine JL_nil ?_
  refine N_then ?_
  refine J_seq ?_
  refine J_seq ?_
  refine J_region ?_
  refine JL_q (wants_none rfl) rfl (ex_move rfl) ?_
  refine JL_q (wants_none rfl) rfl (ex_len_rd 1 Try.underlying36 rfl rfl) ?_
  refine JL_q (wants_none rfl) rfl (ex_move rfl) ?_
  refine JL_q (wants_none rfl) rfl (ex_len_rd 0 Try.underlying36 rfl rfl) ?_
  refine JL_q (wants_none rfl) rfl (ex_neq rfl rfl) ?_
  refine JL_nil ?_
  refine N_then ?_
  refine J_if rfl (fun h1 => ?_) (fun h1 => ?_)
  · refine J_seq ?_
    refine J_region ?_
    refine JL_q (wants_none rfl) rfl (ex_assign rfl) ?_
    refine JL_nil ?_
    refine N_then ?_
    refine J_ret ?_
    refine N_then_ret ?_
    exact N_ret1 rfl (rv_tmp rfl) (fun w hh => ⟨(), rfl, hh.sel [] rfl⟩)
  · refine J_skip ?_
    refine N_then ?_
    refine J_seq ?_
    refine J_seq ?_
    refine J_region ?_
    refine JL_q (wants_none rfl) rfl (ex_assign rfl) ?_
    refine JL_nil ?_
    refine N_then ?_
    refine J_loop' (S := Int) (G := Unit) (F_laws_eqTapeS_L1 p0 p1) (fun s2 _ => [(0, v0_), (1, v1_), (5, .int .i64 s2)]) (fun s2 _ => [.rd v0_ p0, .rd v1_ p1]) 0 () ⟨rfl, rfl, rfl, trivial⟩ [1, 0] rfl rfl (fun s2 g3 => ?_) (fun s2 g3 => ?_)
    · unfold F_laws_eqTapeS_L1
      refine J_seq ?_
      refine J_seq ?_
      refine J_region ?_
      refine JL_q (wants_none rfl) rfl (ex_move rfl) ?_
      refine JL_q (wants_none rfl) rfl (ex_move rfl) ?_
      refine JL_q (wants_none rfl) rfl (ex_len_rd 0 Try.underlying36 rfl rfl) ?_
      refine JL_q (wants_none rfl) rfl (ex_lss rfl rfl) ?_
      refine JL_nil ?_
      refine N_then ?_
      refine J_if rfl (fun h4 => ?_) (fun h4 => ?_)
      · refine J_skip ?_
        refine N_then ?_
        refine J_seq ?_
        refine J_block ?_
        refine J_seq ?_
        refine J_draw [] (by kernel_rfl) ?_
        refine JP_take (i := 0) [0, 1] [] rfl (by kernel_rfl) (by kernel_rfl) (by kernel_rfl) rfl rfl (wants_none rfl) rfl (ex_move rfl) ?_
        refine JP_take (i := 1) [0, 1] [] rfl (by kernel_rfl) (by kernel_rfl) (by kernel_rfl) rfl rfl (wants_none rfl) rfl (ex_move rfl) ?_
        refine JP_bnd fun y5 hy6 => ?_
        refine JP_sq (i := 2) [] rfl (by kernel_rfl) (by kernel_rfl) (by kernel_rfl) rfl (wants_none rfl) rfl (sq_index 0 Try.underlying36 ti_75 rfl rfl rfl hy6) (fun q7 => ?_)
        refine JP_sq (i := 3) [] rfl (by kernel_rfl) (by kernel_rfl) (by kernel_rfl) rfl (wants_none rfl) rfl (sq_load_pt_o 0 (GTape.opens _) ti_75 rfl rfl) (fun v8 => ?_)
        refine JP_take (i := 4) [0, 1, 2, 3, 4] [] rfl (by kernel_rfl) (by kernel_rfl) (by kernel_rfl) rfl rfl (wants_none rfl) rfl (ex_move rfl) ?_
        refine JP_take (i := 5) [0, 1, 2, 3, 4] [] rfl (by kernel_rfl) (by kernel_rfl) (by kernel_rfl) rfl rfl (wants_none rfl) rfl (ex_move rfl) ?_
        refine JP_bnd fun y9 hy10 => ?_
        refine JP_sq (i := 6) [] rfl (by kernel_rfl) (by kernel_rfl) (by kernel_rfl) rfl (wants_none rfl) rfl (sq_index 4 Try.underlying36 ti_75 rfl rfl rfl hy10) (fun q11 => ?_)
        refine JP_sq (i := 7) [] rfl (by kernel_rfl) (by kernel_rfl) (by kernel_rfl) rfl (wants_none rfl) rfl (sq_load_pt_o 0 (GTape.opens _) ti_75 rfl rfl) (fun v12 => ?_)
        refine JP_go [0, 1, 2, 3, 4, 5, 6, 7] [] rfl rfl rfl (fun w14 h1_15 hp13 => ?_)
        refine JD_bnd fun r16 hr17 => ?_
        refine JD_one (i := 8) (by kernel_rfl) ?_
        refine JO_call rfl (wants_none rfl) rfl Try.call41 rfl (Ca_of0 fun w hh => c_laws_eqTape _ w (fun _ hk => hk.elim) _ _ (GTape.rdmk (hh.rd0 3 rfl) (hh.rd0 4 rfl)) _ _ (GTape.rdmk (hh.rd0 0 rfl) (hh.rd0 1 rfl)) _ hr17) (fun _ => ?_)
        refine JD_take (i := 9) hp13 rfl (by kernel_rfl) (by kernel_rfl) (by kernel_rfl) (wants_none rfl) rfl (ex_not rfl) ?_
        refine JD_done (by kernel_rfl) ?_
        refine N_then ?_
        refine J_if rfl (fun h18 => ?_) (fun h18 => ?_)
        · refine J_seq ?_
          refine J_region ?_
          refine JL_q (wants_none rfl) rfl (ex_assign rfl) ?_
          refine JL_nil ?_
          refine N_then ?_
          refine J_ret ?_
          refine N_block_ret ?_
          refine N_then_ret ?_
          refine N_round_ret ?_
          refine N_then_ret ?_
          exact N_ret1 rfl (rv_tmp rfl) (fun w hh => ⟨(), rfl, hh.sel [] rfl⟩)
        · refine J_skip ?_
          refine N_block ?_
          refine N_then ?_
          refine J_region ?_
          refine JL_q (wants_none rfl) rfl (ex_move rfl) ?_
          refine JL_q (wants_none rfl) rfl (ex_add rfl rfl) ?_
          refine JL_q (wants_none rfl) rfl (ex_assign rfl) ?_
          refine JL_nil ?_
          exact N_next' () ⟨rfl, rfl, rfl, trivial⟩ [6, 7] rfl rfl
      · refine J_exit ?_
        refine N_then_exit ?_
        exact N_break' () ⟨rfl, rfl, rfl, trivial⟩ [0, 1] rfl rfl
    · refine N_then ?_
      refine J_seq ?_
      refine J_region ?_
      refine JL_q (wants_none rfl) rfl (ex_assign rfl) ?_
      refine JL_nil ?_
      refine N_then ?_
      refine J_ret ?_
      exact N_ret1 rfl (rv_tmp rfl) (fun w hh => ⟨(), rfl, hh.sel [] rfl⟩)

set_option maxHeartbeats 40000000 in
theorem c_laws_eqMultiConfig (A : Nat → Prop) (w : World) (hA : ∀ k, A k → k < w.heap.size) (v0_ : Value) (p0 : GMultiConfig) (hp0 : Rd A w v0_ p0) (v1_ : Value) (p1 : GMultiConfig) (hp1 : Rd A w v1_ p1) (r : Bool) (hr : F_laws_eqMultiConfig p0 p1 = some r) :
    Con Try.prog 11 [v0_, v1_] A w (fun x_ : Unit => .bool r) (fun x_ => []) := by
  obtain ⟨v0_0, rfl, hp0_0⟩ := GMultiConfig.open hp0
  obtain ⟨v1_0, rfl, hp1_0⟩ := GMultiConfig.open hp1
  refine Con_of (v := fun (r : Bool) (x_ : Unit) => .bool r) (fs := fun r x_ => []) Try.func11 rfl Try.ntmps11 rfl (((SH.start hA).start_rd rfl hp0_0).start_rd rfl hp1_0) rfl ?_ hr
  unfold F_laws_eqMultiConfig
  refine J_seq ?_
  refine J_region ?_
  refine JL_st (wants_none rfl) rfl (st_box' rfl (fun w hh => (cv_aggs ⟨cv_int, (hh.cv 1 rfl), trivial⟩))) (fun b1 => ?_)
  refine JL_st (wants_none rfl) rfl (st_box' rfl (fun w hh => (cv_aggs ⟨cv_int, (hh.cv 1 rfl), trivial⟩))) (fun b2 => ?_)
  refine JL_q (wants_none rfl) rfl (ex_assign rfl) ?_
  refine JL_nil ?_
  refine N_then ?_
  refine J_seq ?_
  refine J_seq ?_
  refine J_region ?_
  refine JL_q (wants_none rfl) rfl (ex_fieldAddr fi_38_0 rfl rfl) ?_
  refine JL_q (wants_none rfl) rfl (ex_load_bx 1 ti_2 rfl rfl rfl) ?_
  refine JL_q (wants_none rfl) rfl (ex_fieldAddr fi_38_0 rfl rfl) ?_
  refine JL_q (wants_none rfl) rfl (ex_load_bx 0 ti_2 rfl rfl rfl) ?_
  refine JL_q (wants_none rfl) rfl (ex_neq rfl rfl) ?_
  refine JL_nil ?_
  refine N_then ?_
  refine J_if rfl (fun h3 => ?_) (fun h3 => ?_)
  · refine J_seq ?_
    refine J_region ?_
    refine JL_q (wants_none rfl) rfl (ex_assign rfl) ?_
    refine JL_nil ?_
    refine N_then ?_
    refine J_ret ?_
    refine N_then_ret ?_
    exact N_ret1 rfl (rv_tmp rfl) (fun w hh => ⟨(), rfl, hh.sel [] rfl⟩)
  · refine J_skip ?_
    refine N_then ?_
    refine J_seq ?_
    refine J_seq ?_
    refine J_region ?_
    refine JL_q (wants_none rfl) rfl (ex_fieldAddr fi_38_1 rfl rfl) ?_
    refine JL_q (wants_none rfl) rfl (ex_load_bx 1 ti_36 rfl rfl rfl) ?_
    refine JL_q (wants_none rfl) rfl (ex_fieldAddr fi_38_1 rfl rfl) ?_
    refine JL_q (wants_none rfl) rfl (ex_load_bx 0 ti_36 rfl rfl rfl) ?_
    refine JL_bnd fun r4 hr5 => ?_
    refine JL_call (wants_none rfl) rfl Try.call23 rfl (Ca_of0 fun w hh => c_laws_eqTapeS _ w (fun _ hk => hk.elim) _ _ (hh.rd0 3 rfl) _ _ (hh.rd0 2 rfl) _ hr5) (fun _ => ?_)
    refine JL_q (wants_none rfl) rfl (ex_not rfl) ?_
    refine JL_nil ?_
    refine N_then ?_
    refine J_if rfl (fun h6 => ?_) (fun h6 => ?_)
    · refine J_seq ?_
      refine J_region ?_
      refine JL_q (wants_none rfl) rfl (ex_assign rfl) ?_
      refine JL_nil ?_
      refine N_then ?_
      refine J_ret ?_
      refine N_then_ret ?_
      exact N_ret1 rfl (rv_tmp rfl) (fun w hh => ⟨(), rfl, hh.sel [] rfl⟩)
    · refine J_skip ?_
      refine N_then ?_
      refine J_seq ?_
      refine J_region ?_
      refine JL_q (wants_none rfl) rfl (ex_assign rfl) ?_
      refine JL_nil ?_
      refine N_then ?_
      refine J_ret ?_
      exact N_ret1 rfl (rv_tmp rfl) (fun w hh => ⟨(), rfl, hh.sel [] rfl⟩)

set_option maxHeartbeats 40000000 in
theorem c_laws_FnExactMultiRuleAt (A : Nat → Prop) (w : World) (hA : ∀ k, A k → k < w.heap.size) (v0_ : Value) (p0 : GMulti) (hp0 : Rd A w v0_ p0) (v1_ : Value) (p1 : GMultiConfig) (hp1 : Rd A w v1_ p1) (r : Bool) (hr : F_laws_FnExactMultiRuleAt p0 p1 = some r) :
    Con Try.prog 3 [v0_, v1_] A w (fun x_ : Unit => .bool r) (fun x_ => []) := by
  obtain ⟨v0_0, rfl, hp0_0⟩ := GMulti.open hp0
  obtain ⟨v1_0, rfl, hp1_0⟩ := GMultiConfig.open hp1
  refine Con_of (v := fun (r : Bool) (x_ : Unit) => .bool r) (fs := fun r x_ => []) Try.func3 rfl Try.ntmps3 rfl (((SH.start hA).start_rd rfl hp0_0).start_rd rfl hp1_0) rfl ?_ hr
  unfold F_laws_FnExactMultiRuleAt
  refine J_seq ?_
  refine J_region ?_
  refine JL_st (wants_none rfl) rfl (st_box' rfl (fun w hh => (cv_aggs ⟨cv_int, cv_int, cv_int, (hh.cv 1 rfl), trivial⟩))) (fun b1 => ?_)
  refine JL_st (wants_none rfl) rfl (st_box' rfl (fun w hh => (cv_aggs ⟨cv_int, (hh.cv 1 rfl), trivial⟩))) (fun b2 => ?_)
  refine JL_q (wants_none rfl) rfl (ex_assign rfl) ?_
  refine JL_nil ?_
  refine N_then ?_
  refine J_seq ?_
  refine J_region ?_
  refine JL_q (wants_none rfl) rfl (ex_assign rfl) ?_
  refine JL_nil ?_
  refine N_then ?_
  refine J_seq ?_
  refine J_region ?_
  refine JL_q (wants_none rfl) rfl (ex_load_bx_agg 1 ti_24 rfl rfl rfl rfl) ?_
  refine JL_q (wants_none rfl) rfl (ex_move rfl) ?_
  refine JL_bnd fun r3 hr4 => ?_
  refine JL_call (wants_none rfl) rfl Try.call4 rfl (Ca_of0 fun w hh => c_laws_szMulti _ w (fun _ hk => hk.elim) _ _ (GMulti.rdmk (Rd.mk_int _ _ _) (Rd.mk_int _ _ _) (Rd.mk_int _ _ _) (hh.rd0 3 rfl)) _ _ hr4) (fun _ => ?_)
  refine JL_q (wants_none rfl) rfl (ex_assign rfl) ?_
  refine JL_nil ?_
  refine N_then ?_
  refine J_seq ?_
  refine J_seq ?_
  refine J_region ?_
  refine JL_q (wants_none rfl) rfl (ex_move rfl) ?_
  refine JL_q (wants_none rfl) rfl (ex_lss rfl rfl) ?_
  refine JL_nil ?_
  refine N_then ?_
  refine J_if rfl (fun h5 => ?_) (fun h5 => ?_)
  · refine J_seq ?_
    refine J_region ?_
    refine JL_q (wants_none rfl) rfl (ex_assign rfl) ?_
    refine JL_nil ?_
    refine N_then ?_
    refine J_ret ?_
    refine N_then_ret ?_
    exact N_ret1 rfl (rv_tmp rfl) (fun w hh => ⟨(), rfl, hh.sel [] rfl⟩)
  · refine J_skip ?_
    refine N_then ?_
    refine J_seq ?_
    refine J_region ?_
    refine JL_q (wants_none rfl) rfl (ex_load_bx_agg 0 ti_27 rfl rfl rfl rfl) ?_
    refine JL_q (wants_none rfl) rfl (ex_move rfl) ?_
    refine JL_bnd fun r6 hr7 => ?_
    refine JL_call (wants_none rfl) rfl Try.call5 rfl (Ca_of0 fun w hh => c_laws_szMultiConfig _ w (fun _ hk => hk.elim) _ _ (GMultiConfig.rdmk (Rd.mk_int _ _ _) (hh.rd0 2 rfl)) _ _ hr7) (fun _ => ?_)
    refine JL_q (wants_none rfl) rfl (ex_assign rfl) ?_
    refine JL_nil ?_
    refine N_then ?_
    refine J_seq ?_
    refine J_seq ?_
    refine J_region ?_
    refine JL_q (wants_none rfl) rfl (ex_move rfl) ?_
    refine JL_q (wants_none rfl) rfl (ex_lss rfl rfl) ?_
    refine JL_nil ?_
    refine N_then ?_
    refine J_if rfl (fun h8 => ?_) (fun h8 => ?_)
    · refine J_seq ?_
      refine J_region ?_
      refine JL_q (wants_none rfl) rfl (ex_assign rfl) ?_
      refine JL_nil ?_
      refine N_then ?_
      refine J_ret ?_
      refine N_then_ret ?_
      exact N_ret1 rfl (rv_tmp rfl) (fun w hh => ⟨(), rfl, hh.sel [] rfl⟩)
    · refine J_skip ?_
      refine N_then ?_
      refine J_seq ?_
      refine J_draw [] (by kernel_rfl) ?_
      refine JP_take (i := 0) [0, 1, 2, 3] [] rfl (by kernel_rfl) (by kernel_rfl) (by kernel_rfl) rfl rfl (wants_none rfl) rfl (ex_load_bx_agg 1 ti_24 rfl rfl rfl rfl) ?_
      refine JP_take (i := 2) [0, 1, 2, 3] [] rfl (by kernel_rfl) (by kernel_rfl) (by kernel_rfl) rfl rfl (wants_none rfl) rfl (ex_load_bx_agg 0 ti_27 rfl rfl rfl rfl) ?_
      refine JP_go [0, 1, 2, 3] [] rfl rfl rfl (fun w10 h1_11 hp9 => ?_)
      refine JD_bnd fun r12 hr13 => ?_
      refine JD_one (i := 1) (by kernel_rfl) ?_
      refine JO_call rfl (wants_none rfl) rfl Try.call7 rfl (Ca_self (fun _ => rfl) fun w hh => c_laws_toMulti _ w (fun _ hk => hk.elim) _ _ (GMulti.rdmk (Rd.mk_int _ _ _) (Rd.mk_int _ _ _) (Rd.mk_int _ _ _) (hh.rd0 3 rfl)) _ hr13) (fun x14 => ?_)
      obtain ⟨x14_0, x14_1⟩ := x14
      refine JD_bnd fun r15 hr16 => ?_
      refine JD_one (i := 3) (by kernel_rfl) ?_
      refine JO_call rfl (wants_none rfl) rfl Try.call8 rfl (Ca_self (fun _ => rfl) fun w hh => c_laws_toMultiConfig _ w (fun _ hk => hk.elim) _ _ (GMultiConfig.rdmk (Rd.mk_int _ _ _) (hh.rd0 3 rfl)) _ hr16) (fun x17 => ?_)
      obtain ⟨x17_0, x17_1⟩ := x17
      refine JD_bnd fun r18 hr19 => ?_
      refine JD_one (i := 4) (by kernel_rfl) ?_
      refine JO_call rfl (wants_none rfl) rfl Try.call6 rfl (Ca_of0 fun w hh => c_spec_MultiRuleAt _ w (fun _ hk => hk.elim) _ _ (GMulti.rdmk (Rd.mk_int _ _ _) (Rd.mk_int _ _ _) (Rd.mk_int _ _ _) (hh.od0 1 rfl)) _ _ (GMultiConfig.rdmk (Rd.mk_int _ _ _) (hh.od0 0 rfl)) _ hr19) (fun _ => ?_)
      refine JD_take (i := 5) hp9 rfl (by kernel_rfl) (by kernel_rfl) (by kernel_rfl) (wants_none rfl) rfl (ex_move rfl) ?_
      refine JD_take (i := 6) hp9 rfl (by kernel_rfl) (by kernel_rfl) (by kernel_rfl) (wants_none rfl) rfl (ex_extract rfl rfl) ?_
      refine JD_take (i := 7) hp9 rfl (by kernel_rfl) (by kernel_rfl) (by kernel_rfl) (wants_none rfl) rfl (ex_extract rfl rfl) ?_
      refine JD_take (i := 8) hp9 rfl (by kernel_rfl) (by kernel_rfl) (by kernel_rfl) (wants_none rfl) rfl (ex_assign rfl) ?_
      refine JD_take (i := 9) hp9 rfl (by kernel_rfl) (by kernel_rfl) (by kernel_rfl) (wants_none rfl) rfl (ex_assign rfl) ?_
      refine JD_done (by kernel_rfl) ?_
      refine N_then ?_
      refine J_seq ?_
      refine J_region ?_
      refine JL_q (wants_none rfl) rfl (ex_load_bx_agg 3 ti_24 rfl rfl rfl rfl) ?_
      refine JL_bnd fun r20 hr21 => ?_
      refine JL_call (wants_none rfl) rfl Try.call7 rfl (Ca_self (fun _ => rfl) fun w hh => c_laws_toMulti _ w (fun _ hk => hk.elim) _ _ (GMulti.rdmk (Rd.mk_int _ _ _) (Rd.mk_int _ _ _) (Rd.mk_int _ _ _) (hh.rd0 5 rfl)) _ hr21) (fun x22 => ?_)
      obtain ⟨x22_0, x22_1⟩ := x22
      refine JL_st (wants_none rfl) rfl (st_alloc zi_34 rfl) (fun b23 => ?_)
      refine JL_sk (wants_none rfl) (sk_store_bx' 0 ti_34 rfl rfl (fun w hh => (cv_aggs ⟨cv_int, cv_int, cv_int, (hh.cv_od 1 rfl), trivial⟩)) rfl rfl rfl rfl) ?_
      refine JL_nil ?_
      refine N_then ?_
      refine J_seq ?_
      refine J_region ?_
      refine JL_q (wants_none rfl) rfl (ex_load_bx_agg 4 ti_27 rfl rfl rfl rfl) ?_
      refine JL_bnd fun r24 hr25 => ?_
      refine JL_call (wants_none rfl) rfl Try.call8 rfl (Ca_self (fun _ => rfl) fun w hh => c_laws_toMultiConfig _ w (fun _ hk => hk.elim) _ _ (GMultiConfig.rdmk (Rd.mk_int _ _ _) (hh.rd0 6 rfl)) _ hr25) (fun x26 => ?_)
      obtain ⟨x26_0, x26_1⟩ := x26
      refine JL_st (wants_none rfl) rfl (st_alloc zi_38 rfl) (fun b27 => ?_)
      refine JL_sk (wants_none rfl) (sk_store_bx' 0 ti_38 rfl rfl (fun w hh => (cv_aggs ⟨cv_int, (hh.cv_od 1 rfl), trivial⟩)) rfl rfl rfl rfl) ?_
      refine JL_nil ?_
      refine N_then ?_
      refine J_seq ?_
      refine J_region ?_
      refine JL_q (wants_none rfl) rfl (ex_load_bx_agg 2 ti_34 rfl rfl rfl rfl) ?_
      refine JL_q (wants_none rfl) rfl (ex_load_bx_agg 0 ti_38 rfl rfl rfl rfl) ?_
      refine JL_bnd fun r28 hr29 => ?_
      refine JL_call (wants_none rfl) rfl Try.call9 rfl (Ca_of0 fun w hh => c_impl_MultiRuleAt _ w (fun _ hk => hk.elim) _ _ (GMulti.rdmk (Rd.mk_int _ _ _) (Rd.mk_int _ _ _) (Rd.mk_int _ _ _) (hh.od0 3 rfl)) _ _ (GMultiConfig.rdmk (Rd.mk_int _ _ _) (hh.od0 1 rfl)) _ hr29) (fun _ => ?_)
      refine JL_q (wants_none rfl) rfl (ex_move rfl) ?_
      refine JL_q (wants_none rfl) rfl (ex_extract rfl rfl) ?_
      refine JL_q (wants_none rfl) rfl (ex_extract rfl rfl) ?_
      refine JL_q (wants_none rfl) rfl (ex_assign rfl) ?_
      refine JL_q (wants_none rfl) rfl (ex_assign rfl) ?_
      refine JL_nil ?_
      refine N_then ?_
      refine J_seq ?_
      refine J_seq ?_
      refine J_region ?_
      refine JL_q (wants_none rfl) rfl (ex_move rfl) ?_
      refine JL_q (wants_none rfl) rfl (ex_move rfl) ?_
      refine JL_q (wants_none rfl) rfl (ex_neq rfl rfl) ?_
      refine JL_q (wants_none rfl) rfl (ex_move rfl) ?_
      refine JL_cond (fun h30 => ?_) (fun h30 => ?_)
      · refine JL_passed rfl rfl rfl h30 ?_
        refine JL_passed rfl rfl rfl h30 ?_
        refine JL_passed rfl rfl rfl h30 ?_
        refine JL_q (wants_none rfl) rfl (ex_pick_true rfl h30 rfl) ?_
        refine JL_nil ?_
        refine N_then ?_
        refine J_if_true rfl rfl ?_
        refine J_seq ?_
        refine J_region ?_
        refine JL_q (wants_none rfl) rfl (ex_assign rfl) ?_
        refine JL_nil ?_
        refine N_then ?_
        refine J_ret ?_
        refine N_then_ret ?_
        exact N_ret1 rfl (rv_tmp rfl) (fun w hh => ⟨(), rfl, hh.sel [] rfl⟩)
      · refine JL_q (wants_some rfl rfl rfl h30) rfl (ex_move rfl) ?_
        refine JL_q (wants_some rfl rfl rfl h30) rfl (ex_move rfl) ?_
        refine JL_q (wants_some rfl rfl rfl h30) rfl (ex_neq rfl rfl) ?_
        refine JL_q (wants_none rfl) rfl (ex_pick_false rfl h30 rfl) ?_
        refine JL_nil ?_
        refine N_then ?_
        refine J_if rfl (fun h31 => ?_) (fun h31 => ?_)
        · refine J_seq ?_
          refine J_region ?_
          refine JL_q (wants_none rfl) rfl (ex_assign rfl) ?_
          refine JL_nil ?_
          refine N_then ?_
          refine J_ret ?_
          refine N_then_ret ?_
          exact N_ret1 rfl (rv_tmp rfl) (fun w hh => ⟨(), rfl, hh.sel [] rfl⟩)
        · refine J_skip ?_
          refine N_then ?_
          refine J_seq ?_
          refine J_seq ?_
          refine J_draw [] (by kernel_rfl) ?_
          refine JP_take (i := 0) [0, 1, 2, 3, 4, 5, 6, 7, 8, 9] [] rfl (by kernel_rfl) (by kernel_rfl) (by kernel_rfl) rfl rfl (wants_none rfl) rfl (ex_load_bx_agg 2 ti_34 rfl rfl rfl rfl) ?_
          refine JP_take (i := 1) [0, 1, 2, 3, 4, 5, 6, 7, 8, 9] [] rfl (by kernel_rfl) (by kernel_rfl) (by kernel_rfl) rfl rfl (wants_none rfl) rfl (ex_load_bx_agg 7 ti_24 rfl rfl rfl rfl) ?_
          refine JP_go [0, 1, 2, 3, 4, 5, 6, 7, 8, 9] [] rfl rfl rfl (fun w33 h1_34 hp32 => ?_)
          refine JD_bnd fun r35 hr36 => ?_
          refine JD_one (i := 2) (by kernel_rfl) ?_
          refine JO_call rfl (wants_none rfl) rfl Try.call7 rfl (Ca_self (fun _ => rfl) fun w hh => c_laws_toMulti _ w (fun _ hk => hk.elim) _ _ (GMulti.rdmk (Rd.mk_int _ _ _) (Rd.mk_int _ _ _) (Rd.mk_int _ _ _) (hh.rd0 9 rfl)) _ hr36) (fun x37 => ?_)
          obtain ⟨x37_0, x37_1⟩ := x37
          refine JD_bnd fun r38 hr39 => ?_
          refine JD_one (i := 3) (by kernel_rfl) ?_
          refine JO_call rfl (wants_none rfl) rfl Try.call10 rfl (Ca_of0 fun w hh => c_laws_eqMulti _ w (fun _ hk => hk.elim) _ _ (GMulti.rdmk (Rd.mk_int _ _ _) (Rd.mk_int _ _ _) (Rd.mk_int _ _ _) (hh.od0 4 rfl)) _ _ (GMulti.rdmk (Rd.mk_int _ _ _) (Rd.mk_int _ _ _) (Rd.mk_int _ _ _) (hh.od0 0 rfl)) _ hr39) (fun _ => ?_)
          refine JD_take (i := 4) hp32 rfl (by kernel_rfl) (by kernel_rfl) (by kernel_rfl) (wants_none rfl) rfl (ex_not rfl) ?_
          refine JD_done (by kernel_rfl) ?_
          refine N_then ?_
          refine J_if rfl (fun h40 => ?_) (fun h40 => ?_)
          · refine J_seq ?_
            refine J_region ?_
            refine JL_q (wants_none rfl) rfl (ex_assign rfl) ?_
            refine JL_nil ?_
            refine N_then ?_
            refine J_ret ?_
            refine N_then_ret ?_
            exact N_ret1 rfl (rv_tmp rfl) (fun w hh => ⟨(), rfl, hh.sel [] rfl⟩)
          · refine J_skip ?_
            refine N_then ?_
            refine J_seq ?_
            refine J_seq ?_
            refine J_draw [] (by kernel_rfl) ?_
            refine JP_take (i := 0) [0, 1, 2, 3, 4, 5, 6, 7, 8, 9, 10] [] rfl (by kernel_rfl) (by kernel_rfl) (by kernel_rfl) rfl rfl (wants_none rfl) rfl (ex_load_bx_agg 1 ti_38 rfl rfl rfl rfl) ?_
            refine JP_take (i := 1) [0, 1, 2, 3, 4, 5, 6, 7, 8, 9, 10] [] rfl (by kernel_rfl) (by kernel_rfl) (by kernel_rfl) rfl rfl (wants_none rfl) rfl (ex_load_bx_agg 7 ti_27 rfl rfl rfl rfl) ?_
            refine JP_go [0, 1, 2, 3, 4, 5, 6, 7, 8, 9, 10] [] rfl rfl rfl (fun w42 h1_43 hp41 => ?_)
            refine JD_bnd fun r44 hr45 => ?_
            refine JD_one (i := 2) (by kernel_rfl) ?_
            refine JO_call rfl (wants_none rfl) rfl Try.call8 rfl (Ca_self (fun _ => rfl) fun w hh => c_laws_toMultiConfig _ w (fun _ hk => hk.elim) _ _ (GMultiConfig.rdmk (Rd.mk_int _ _ _) (hh.rd0 9 rfl)) _ hr45) (fun x46 => ?_)
            obtain ⟨x46_0, x46_1⟩ := x46
            refine JD_bnd fun r47 hr48 => ?_
            refine JD_one (i := 3) (by kernel_rfl) ?_
            refine JO_call rfl (wants_none rfl) rfl Try.call11 rfl (Ca_of0 fun w hh => c_laws_eqMultiConfig _ w (fun _ hk => hk.elim) _ _ (GMultiConfig.rdmk (Rd.mk_int _ _ _) (hh.od0 3 rfl)) _ _ (GMultiConfig.rdmk (Rd.mk_int _ _ _) (hh.od0 0 rfl)) _ hr48) (fun _ => ?_)
            refine JD_take (i := 4) hp41 rfl (by kernel_rfl) (by kernel_rfl) (by kernel_rfl) (wants_none rfl) rfl (ex_not rfl) ?_
            refine JD_done (by kernel_rfl) ?_
            refine N_then ?_
            refine J_if rfl (fun h49 => ?_) (fun h49 => ?_)
            · refine J_seq ?_
              refine J_region ?_
              refine JL_q (wants_none rfl) rfl (ex_assign rfl) ?_
              refine JL_nil ?_
              refine N_then ?_
              refine J_ret ?_
              refine N_then_ret ?_
              exact N_ret1 rfl (rv_tmp rfl) (fun w hh => ⟨(), rfl, hh.sel [] rfl⟩)
            · refine J_skip ?_
              refine N_then ?_
              refine J_seq ?_
              refine J_region ?_
              refine JL_q (wants_none rfl) rfl (ex_assign rfl) ?_
              refine JL_nil ?_
              refine N_then ?_
              refine J_ret ?_
              exact N_ret1 rfl (rv_tmp rfl) (fun w hh => ⟨(), rfl, hh.sel [] rfl⟩)

end Go.Proofs.Ytcjokkoiakjajaa
