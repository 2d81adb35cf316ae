/-
  Each function of the program computes what its plain function says: printed by program. No condition.
-/
import Derived.Test.YtafjflnnkdbmdaaFn
import Derived.Test.YtafjflnnkdbmdaaInf
namespace Go.Proofs.Ytafjflnnkdbmdaa
open Go Go.Tc Go.Fn
set_option linter.unusedVariables false

set_option maxHeartbeats 40000000 in
theorem c_laws_szInt64S (A : Nat → Prop) (w : World) (hA : ∀ k, A k → k < w.heap.size) (v0_ : Value) (p0 : (List Int)) (hp0 : Rd A w v0_ p0) (p1 : Int) (r : Int) (hr : F_laws_szInt64S p0 p1 = some r) :
    Con Try.prog 42 [v0_, .int .i64 p1] A w (fun x_ : Unit => .int .i64 r) (fun x_ => []) := by
  refine Con_of (v := fun (r : Int) (x_ : Unit) => .int .i64 r) (fs := fun r x_ => []) Try.func42 rfl Try.ntmps42 rfl ((SH.start hA).start_rd rfl hp0) rfl ?_ hr
  unfold F_laws_szInt64S
  refine J_seq ?_
  refine J_region ?_
  refine JL_q (wants_none rfl) rfl (ex_assign rfl) ?_
  refine JL_nil ?_
  refine N_then ?_
  refine J_seq ?_
  refine J_region ?_
  refine JL_q (wants_none rfl) rfl (ex_move rfl) ?_
  refine JL_q (wants_none rfl) rfl (ex_move rfl) ?_
  refine JL_q (wants_none rfl) rfl (ex_len_rd 0 Try.underlying64 rfl rfl) ?_
  refine JL_q (wants_none rfl) rfl (ex_sub rfl rfl) ?_
  refine JL_q (wants_none rfl) rfl (ex_assign rfl) ?_
  refine JL_nil ?_
  refine N_then ?_
  refine J_seq ?_
  refine J_seq ?_
  refine J_region ?_
  refine JL_q (wants_none rfl) rfl (ex_move rfl) ?_
  refine JL_q (wants_none rfl) rfl (ex_lss rfl rfl) ?_
  refine JL_nil ?_
  refine N_then ?_
  refine J_if rfl (fun h1 => ?_) (fun h1 => ?_)
  · refine J_seq ?_
    refine J_region ?_
    refine JL_q (wants_none rfl) rfl (ex_assign rfl) ?_
    refine JL_nil ?_
    refine N_then ?_
    refine J_ret ?_
    refine N_then_ret ?_
    exact N_ret1 rfl (rv_tmp rfl) (fun w hh => ⟨(), rfl, hh.sel [] rfl⟩)
  · refine J_skip ?_
    refine N_then ?_
    refine J_seq ?_
    refine J_region ?_
    refine JL_q (wants_none rfl) rfl (ex_move rfl) ?_
    refine JL_q (wants_none rfl) rfl (ex_assign rfl) ?_
    refine JL_nil ?_
    refine N_then ?_
    refine J_ret ?_
    exact N_ret1 rfl (rv_tmp rfl) (fun w hh => ⟨(), rfl, hh.sel [] rfl⟩)

set_option maxHeartbeats 40000000 in
theorem c_laws_szMultiRule (A : Nat → Prop) (w : World) (hA : ∀ k, A k → k < w.heap.size) (v0_ : Value) (p0 : GMultiRule) (hp0 : Rd A w v0_ p0) (p1 : Int) (r : Int) (hr : F_laws_szMultiRule p0 p1 = some r) :
    Con Try.prog 25 [v0_, .int .i64 p1] A w (fun x_ : Unit => .int .i64 r) (fun x_ => []) := by
  obtain ⟨v0_0, v0_1, v0_2, rfl, hp0_0, hp0_1, hp0_2⟩ := GMultiRule.open hp0
  refine Con_of (v := fun (r : Int) (x_ : Unit) => .int .i64 r) (fs := fun r x_ => []) Try.func25 rfl Try.ntmps25 rfl ((((SH.start hA).start_rd rfl hp0_0).start_rd rfl hp0_1).start_rd rfl hp0_2) rfl ?_ hr
  unfold F_laws_szMultiRule
  refine J_seq ?_
  refine J_region ?_
  refine JL_st (wants_none rfl) rfl (st_box' rfl (fun w hh => (cv_aggs ⟨cv_int, (hh.cv 2 rfl), (hh.cv 1 rfl), (hh.cv 0 rfl), cv_int, trivial⟩))) (fun b1 => ?_)
  refine JL_q (wants_none rfl) rfl (ex_assign rfl) ?_
  refine JL_nil ?_
  refine N_then ?_
  refine J_seq ?_
  refine J_region ?_
  refine JL_q (wants_none rfl) rfl (ex_fieldAddr fi_66_1 rfl rfl) ?_
  refine JL_q (wants_none rfl) rfl (ex_load_bx 0 ti_64 rfl rfl rfl) ?_
  refine JL_q (wants_none rfl) rfl (ex_move rfl) ?_
  refine JL_bnd fun r2 hr3 => ?_
  refine JL_call (wants_none rfl) rfl Try.call42 rfl (Ca_of0 fun w hh => c_laws_szInt64S _ w (fun _ hk => hk.elim) _ _ (hh.rd0 3 rfl) _ _ hr3) (fun _ => ?_)
  refine JL_q (wants_none rfl) rfl (ex_assign rfl) ?_
  refine JL_nil ?_
  refine N_then ?_
  refine J_seq ?_
  refine J_seq ?_
  refine J_region ?_
  refine JL_q (wants_none rfl) rfl (ex_move rfl) ?_
  refine JL_q (wants_none rfl) rfl (ex_lss rfl rfl) ?_
  refine JL_nil ?_
  refine N_then ?_
  refine J_if rfl (fun h4 => ?_) (fun h4 => ?_)
  · refine J_seq ?_
    refine J_region ?_
    refine JL_q (wants_none rfl) rfl (ex_assign rfl) ?_
    refine JL_nil ?_
    refine N_then ?_
    refine J_ret ?_
    refine N_then_ret ?_
    exact N_ret1 rfl (rv_tmp rfl) (fun w hh => ⟨(), rfl, hh.sel [] rfl⟩)
  · refine J_skip ?_
    refine N_then ?_
    refine J_seq ?_
    refine J_region ?_
    refine JL_q (wants_none rfl) rfl (ex_fieldAddr fi_66_2 rfl rfl) ?_
    refine JL_q (wants_none rfl) rfl (ex_load_bx 0 ti_64 rfl rfl rfl) ?_
    refine JL_q (wants_none rfl) rfl (ex_move rfl) ?_
    refine JL_bnd fun r5 hr6 => ?_
    refine JL_call (wants_none rfl) rfl Try.call42 rfl (Ca_of0 fun w hh => c_laws_szInt64S _ w (fun _ hk => hk.elim) _ _ (hh.rd0 2 rfl) _ _ hr6) (fun _ => ?_)
    refine JL_q (wants_none rfl) rfl (ex_assign rfl) ?_
    refine JL_nil ?_
    refine N_then ?_
    refine J_seq ?_
    refine J_seq ?_
    refine J_region ?_
    refine JL_q (wants_none rfl) rfl (ex_move rfl) ?_
    refine JL_q (wants_none rfl) rfl (ex_lss rfl rfl) ?_
    refine JL_nil ?_
    refine N_then ?_
    refine J_if rfl (fun h7 => ?_) (fun h7 => ?_)
    · refine J_seq ?_
      refine J_region ?_
      refine JL_q (wants_none rfl) rfl (ex_assign rfl) ?_
      refine JL_nil ?_
      refine N_then ?_
      refine J_ret ?_
      refine N_then_ret ?_
      exact N_ret1 rfl (rv_tmp rfl) (fun w hh => ⟨(), rfl, hh.sel [] rfl⟩)
    · refine J_skip ?_
      refine N_then ?_
      refine J_seq ?_
      refine J_region ?_
      refine JL_q (wants_none rfl) rfl (ex_fieldAddr fi_66_3 rfl rfl) ?_
      refine JL_q (wants_none rfl) rfl (ex_load_bx 0 ti_64 rfl rfl rfl) ?_
      refine JL_q (wants_none rfl) rfl (ex_move rfl) ?_
      refine JL_bnd fun r8 hr9 => ?_
      refine JL_call (wants_none rfl) rfl Try.call42 rfl (Ca_of0 fun w hh => c_laws_szInt64S _ w (fun _ hk => hk.elim) _ _ (hh.rd0 1 rfl) _ _ hr9) (fun _ => ?_)
      refine JL_q (wants_none rfl) rfl (ex_assign rfl) ?_
      refine JL_nil ?_
      refine N_then ?_
      refine J_seq ?_
      refine J_seq ?_
      refine J_region ?_
      refine JL_q (wants_none rfl) rfl (ex_move rfl) ?_
      refine JL_q (wants_none rfl) rfl (ex_lss rfl rfl) ?_
      refine JL_nil ?_
      refine N_then ?_
      refine J_if rfl (fun h10 => ?_) (fun h10 => ?_)
      · refine J_seq ?_
        refine J_region ?_
        refine JL_q (wants_none rfl) rfl (ex_assign rfl) ?_
        refine JL_nil ?_
        refine N_then ?_
        refine J_ret ?_
        refine N_then_ret ?_
        exact N_ret1 rfl (rv_tmp rfl) (fun w hh => ⟨(), rfl, hh.sel [] rfl⟩)
      · refine J_skip ?_
        refine N_then ?_
        refine J_seq ?_
        refine J_region ?_
        refine JL_q (wants_none rfl) rfl (ex_move rfl) ?_
        refine JL_q (wants_none rfl) rfl (ex_assign rfl) ?_
        refine JL_nil ?_
        refine N_then ?_
        refine J_ret ?_
        exact N_ret1 rfl (rv_tmp rfl) (fun w hh => ⟨(), rfl, hh.sel [] rfl⟩)

set_option maxHeartbeats 40000000 in
theorem c_laws_szMultiRuleS (A : Nat → Prop) (w : World) (hA : ∀ k, A k → k < w.heap.size) (v0_ : Value) (p0 : (List GMultiRule)) (hp0 : Rd A w v0_ p0) (p1 : Int) (r : Int) (hr : F_laws_szMultiRuleS p0 p1 = some r) :
    Con Try.prog 13 [v0_, .int .i64 p1] A w (fun x_ : Unit => .int .i64 r) (fun x_ => []) := by
  refine Con_of (v := fun (r : Int) (x_ : Unit) => .int .i64 r) (fs := fun r x_ => []) Try.func13 rfl Try.ntmps13 rfl ((SH.start hA).start_rd rfl hp0) rfl ?_ hr
  unfold F_laws_szMultiRuleS
  refine J_seq ?_
  refine J_region ?_
  refine JL_q (wants_none rfl) rfl (ex_assign rfl) ?_
  refine JL_nil ?_
  refine N_then ?_
  refine J_seq ?_
  refine J_region ?_
  refine JL_q (wants_none rfl) rfl (ex_move rfl) ?_
  refine JL_q (wants_none rfl) rfl (ex_move rfl) ?_
  refine JL_q (wants_none rfl) rfl (ex_len_rd 0 Try.underlying22 rfl rfl) ?_
  refine JL_q (wants_none rfl) rfl (ex_sub rfl rfl) ?_
  refine JL_q (wants_none rfl) rfl (ex_assign rfl) ?_
  refine JL_nil ?_
  refine N_then ?_
  refine J_seq ?_
  refine J_seq ?_
  refine J_region ?_
  refine JL_q (wants_none rfl) rfl (ex_move rfl) ?_
  refine JL_q (wants_none rfl) rfl (ex_lss rfl rfl) ?_
  refine JL_nil ?_
  refine N_then ?_
  refine J_if rfl (fun h1 => ?_) (fun h1 => ?_)
  · refine J_seq ?_
    refine J_region ?_
    refine JL_q (wants_none rfl) rfl (ex_assign rfl) ?_
    refine JL_nil ?_
    refine N_then ?_
    refine J_ret ?_
    refine N_then_ret ?_
    exact N_ret1 rfl (rv_tmp rfl) (fun w hh => ⟨(), rfl, hh.sel [] rfl⟩)
  · refine J_skip ?_
    refine N_then ?_
    refine J_seq ?_
    refine J_seq ?_
    refine J_region ?_
    refine JL_q (wants_none rfl) rfl (ex_assign rfl) ?_
    refine JL_nil ?_
    refine N_then ?_
    refine J_loop' (S := Int × Int) (G := Unit) (F_laws_szMultiRuleS_L1 p0) (fun s2 _ => [(0, v0_), (1, .int .i64 s2.1), (5, .int .i64 s2.2)]) (fun s2 _ => [.rd v0_ p0]) ((w64 (p1 - (p0.length : Int))), 0) () ⟨rfl, rfl, rfl, trivial⟩ [0] rfl rfl (fun s2 g3 => ?_) (fun s2 g3 => ?_)
    · unfold F_laws_szMultiRuleS_L1
      refine J_seq ?_
      refine J_seq ?_
      refine J_region ?_
      refine JL_q (wants_none rfl) rfl (ex_move rfl) ?_
      refine JL_q (wants_none rfl) rfl (ex_move rfl) ?_
      refine JL_q (wants_none rfl) rfl (ex_len_rd 0 Try.underlying22 rfl rfl) ?_
      refine JL_q (wants_none rfl) rfl (ex_lss rfl rfl) ?_
      refine JL_nil ?_
      refine N_then ?_
      refine J_if rfl (fun h4 => ?_) (fun h4 => ?_)
      · refine J_skip ?_
        refine N_then ?_
        refine J_seq ?_
        refine J_block ?_
        refine J_seq ?_
        refine J_region ?_
        refine JL_q (wants_none rfl) rfl (ex_move rfl) ?_
        refine JL_q (wants_none rfl) rfl (ex_move rfl) ?_
        refine JL_bnd fun y5 hy6 => ?_
        refine JL_st (wants_none rfl) rfl (st_index 0 Try.underlying22 ti_66 rfl rfl rfl hy6) (fun q7 => ?_)
        refine JL_st (wants_none rfl) rfl (st_load_pt_o 0 (GMultiRule.opens _) ti_66 rfl rfl) (fun v8 => ?_)
        refine JL_q (wants_none rfl) rfl (ex_move rfl) ?_
        refine JL_bnd fun r9 hr10 => ?_
        refine JL_call (wants_none rfl) rfl Try.call25 rfl (Ca_of0 fun w hh => c_laws_szMultiRule _ w (fun _ hk => hk.elim) _ _ (GMultiRule.rdmk (Rd.mk_int _ _ _) (hh.rd0 0 rfl) (hh.rd0 1 rfl) (hh.rd0 2 rfl) (Rd.mk_int _ _ _)) _ _ hr10) (fun _ => ?_)
        refine JL_q (wants_none rfl) rfl (ex_assign rfl) ?_
        refine JL_nil ?_
        refine N_then ?_
        refine J_seq ?_
        refine J_region ?_
        refine JL_q (wants_none rfl) rfl (ex_move rfl) ?_
        refine JL_q (wants_none rfl) rfl (ex_lss rfl rfl) ?_
        refine JL_nil ?_
        refine N_then ?_
        refine J_if rfl (fun h11 => ?_) (fun h11 => ?_)
        · refine J_seq ?_
          refine J_region ?_
          refine JL_q (wants_none rfl) rfl (ex_assign rfl) ?_
          refine JL_nil ?_
          refine N_then ?_
          refine J_ret ?_
          refine N_block_ret ?_
          refine N_then_ret ?_
          refine N_round_ret ?_
          refine N_then_ret ?_
          exact N_ret1 rfl (rv_tmp rfl) (fun w hh => ⟨(), rfl, hh.sel [] rfl⟩)
        · refine J_skip ?_
          refine N_block ?_
          refine N_then ?_
          refine J_region ?_
          refine JL_q (wants_none rfl) rfl (ex_move rfl) ?_
          refine JL_q (wants_none rfl) rfl (ex_add rfl rfl) ?_
          refine JL_q (wants_none rfl) rfl (ex_assign rfl) ?_
          refine JL_nil ?_
          exact N_next' () ⟨rfl, rfl, rfl, trivial⟩ [4] rfl rfl
      · refine J_exit ?_
        refine N_then_exit ?_
        exact N_break' () ⟨rfl, rfl, rfl, trivial⟩ [0] rfl rfl
    · refine N_then ?_
      refine J_seq ?_
      refine J_region ?_
      refine JL_q (wants_none rfl) rfl (ex_move rfl) ?_
      refine JL_q (wants_none rfl) rfl (ex_assign rfl) ?_
      refine JL_nil ?_
      refine N_then ?_
      refine J_ret ?_
      exact N_ret1 rfl (rv_tmp rfl) (fun w hh => ⟨(), rfl, hh.sel [] rfl⟩)

set_option maxHeartbeats 40000000 in
theorem c_laws_szMulti (A : Nat → Prop) (w : World) (hA : ∀ k, A k → k < w.heap.size) (v0_ : Value) (p0 : GMulti) (hp0 : Rd A w v0_ p0) (p1 : Int) (r : Int) (hr : F_laws_szMulti p0 p1 = some r) :
    Con Try.prog 4 [v0_, .int .i64 p1] A w (fun x_ : Unit => .int .i64 r) (fun x_ => []) := by
  obtain ⟨v0_0, rfl, hp0_0⟩ := GMulti.open hp0
  refine Con_of (v := fun (r : Int) (x_ : Unit) => .int .i64 r) (fs := fun r x_ => []) Try.func4 rfl Try.ntmps4 rfl ((SH.start hA).start_rd rfl hp0_0) rfl ?_ hr
  unfold F_laws_szMulti
  refine J_seq ?_
  refine J_region ?_
  refine JL_st (wants_none rfl) rfl (st_box' rfl (fun w hh => (cv_aggs ⟨cv_int, cv_int, cv_int, (hh.cv 0 rfl), trivial⟩))) (fun b1 => ?_)
  refine JL_q (wants_none rfl) rfl (ex_assign rfl) ?_
  refine JL_nil ?_
  refine N_then ?_
  refine J_seq ?_
  refine J_region ?_
  refine JL_q (wants_none rfl) rfl (ex_fieldAddr fi_24_3 rfl rfl) ?_
  refine JL_q (wants_none rfl) rfl (ex_load_bx 0 ti_22 rfl rfl rfl) ?_
  refine JL_q (wants_none rfl) rfl (ex_move rfl) ?_
  refine JL_bnd fun r2 hr3 => ?_
  refine JL_call (wants_none rfl) rfl Try.call13 rfl (Ca_of0 fun w hh => c_laws_szMultiRuleS _ w (fun _ hk => hk.elim) _ _ (hh.rd0 1 rfl) _ _ hr3) (fun _ => ?_)
  refine JL_q (wants_none rfl) rfl (ex_assign rfl) ?_
  refine JL_nil ?_
  refine N_then ?_
  refine J_seq ?_
  refine J_seq ?_
  refine J_region ?_
  refine JL_q (wants_none rfl) rfl (ex_move rfl) ?_
  refine JL_q (wants_none rfl) rfl (ex_lss rfl rfl) ?_
  refine JL_nil ?_
  refine N_then ?_
  refine J_if rfl (fun h4 => ?_) (fun h4 => ?_)
  · refine J_seq ?_
    refine J_region ?_
    refine JL_q (wants_none rfl) rfl (ex_assign rfl) ?_
    refine JL_nil ?_
    refine N_then ?_
    refine J_ret ?_
    refine N_then_ret ?_
    exact N_ret1 rfl (rv_tmp rfl) (fun w hh => ⟨(), rfl, hh.sel [] rfl⟩)
  · refine J_skip ?_
    refine N_then ?_
    refine J_seq ?_
    refine J_region ?_
    refine JL_q (wants_none rfl) rfl (ex_move rfl) ?_
    refine JL_q (wants_none rfl) rfl (ex_assign rfl) ?_
    refine JL_nil ?_
    refine N_then ?_
    refine J_ret ?_
    exact N_ret1 rfl (rv_tmp rfl) (fun w hh => ⟨(), rfl, hh.sel [] rfl⟩)

set_option maxHeartbeats 40000000 in
theorem c_laws_toInt64S (A : Nat → Prop) (w : World) (hA : ∀ k, A k → k < w.heap.size) (v0_ : Value) (p0 : (List Int)) (hp0 : Rd A w v0_ p0) (r : (List Int)) (hr : F_laws_toInt64S p0 = some r) :
    Con Try.prog 47 [v0_] A w (fun x_ : Value => x_) (fun x_ => [.ow 2 x_ r]) := by
  refine Con_of (v := fun (r : (List Int)) (x_ : Value) => x_) (fs := fun r x_ => [.ow 2 x_ r]) Try.func47 rfl Try.ntmps47 rfl ((SH.start hA).start_rd rfl hp0) rfl ?_ hr
  unfold F_laws_toInt64S
  refine J_seq ?_
  refine J_region ?_
  refine JL_q (wants_none rfl) rfl (ex_assign rfl) ?_
  refine JL_nil ?_
  refine N_then ?_
  refine J_seq ?_
  refine J_region ?_
  refine JL_q (wants_none rfl) rfl (ex_move rfl) ?_
  refine JL_q (wants_none rfl) rfl (ex_len_rd 0 Try.underlying64 rfl rfl) ?_
  refine JL_bnd fun z1 hz2 => ?_
  refine JL_st (wants_none rfl) rfl (st_make (α := Int) Try.underlying64 ti_2 zi_2 bi_2 rfl (fun _ _ => zero_int) rfl hz2) (fun b3 => ?_)
  refine JL_q (wants_none rfl) rfl (ex_assign rfl) ?_
  refine JL_nil ?_
  refine N_then ?_
  refine J_seq ?_
  refine J_seq ?_
  refine J_region ?_
  refine JL_q (wants_none rfl) rfl (ex_assign rfl) ?_
  refine JL_nil ?_
  refine N_then ?_
  refine J_loop' (S := (List Int) × Int) (G := Unit) (F_laws_toInt64S_L1 p0) (fun s4 _ => [(0, v0_), (3, (.slice (some ⟨b3, 0, none⟩) z1.length z1.length)), (4, .int .i64 s4.2)]) (fun s4 _ => [.rd v0_ p0, .ow 2 (.slice (some ⟨b3, 0, none⟩) z1.length z1.length) s4.1]) (z1, 0) () ⟨rfl, rfl, rfl, trivial⟩ [1, 0] rfl rfl (fun s4 g5 => ?_) (fun s4 g5 => ?_)
  · unfold F_laws_toInt64S_L1
    refine J_seq ?_
    refine J_seq ?_
    refine J_region ?_
    refine JL_q (wants_none rfl) rfl (ex_move rfl) ?_
    refine JL_q (wants_none rfl) rfl (ex_move rfl) ?_
    refine JL_q (wants_none rfl) rfl (ex_len_rd 0 Try.underlying64 rfl rfl) ?_
    refine JL_q (wants_none rfl) rfl (ex_lss rfl rfl) ?_
    refine JL_nil ?_
    refine N_then ?_
    refine J_if rfl (fun h6 => ?_) (fun h6 => ?_)
    · refine J_skip ?_
      refine N_then ?_
      refine J_seq ?_
      refine J_block ?_
      refine J_region ?_
      refine JL_q (wants_none rfl) rfl (ex_move rfl) ?_
      refine JL_q (wants_none rfl) rfl (ex_move rfl) ?_
      refine JL_q (wants_none rfl) rfl (ex_move rfl) ?_
      refine JL_q (wants_none rfl) rfl (ex_move rfl) ?_
      refine JL_bnd fun y7 hy8 => ?_
      refine JL_st (wants_none rfl) rfl (st_index 0 Try.underlying64 ti_2 rfl rfl rfl hy8) (fun q9 => ?_)
      refine JL_st (wants_none rfl) rfl (st_load_pt_o 0 (opens_int _) ti_2 rfl rfl) (fun _ => ?_)
      refine JL_bnd fun y11 hy12 => ?_
      refine JL_q (wants_none rfl) rfl (ex_index_ow 2 Try.underlying64 ti_2 rfl rfl rfl hy12) ?_
      refine JL_sk (wants_none rfl) (sk_store_ow 2 ti_2 rfl rfl rfl hy12 (fun w hh => (Rd.mk_int _ _ _))) ?_
      refine JL_nil ?_
      refine N_block ?_
      refine N_then ?_
      refine J_region ?_
      refine JL_q (wants_none rfl) rfl (ex_move rfl) ?_
      refine JL_q (wants_none rfl) rfl (ex_add rfl rfl) ?_
      refine JL_q (wants_none rfl) rfl (ex_assign rfl) ?_
      refine JL_nil ?_
      exact N_next' () ⟨rfl, rfl, rfl, trivial⟩ [1, 2] rfl rfl
    · refine J_exit ?_
      refine N_then_exit ?_
      exact N_break' () ⟨rfl, rfl, rfl, trivial⟩ [0, 1] rfl rfl
  · refine N_then ?_
    refine J_seq ?_
    refine J_region ?_
    refine JL_q (wants_none rfl) rfl (ex_move rfl) ?_
    refine JL_q (wants_none rfl) rfl (ex_assign rfl) ?_
    refine JL_nil ?_
    refine N_then ?_
    refine J_ret ?_
    exact N_ret1 rfl (rv_tmp rfl) (fun w hh => ⟨(.slice (some ⟨b3, 0, none⟩) z1.length z1.length), rfl, hh.sel [1] rfl⟩)

set_option maxHeartbeats 40000000 in
theorem c_laws_toMultiRule (A : Nat → Prop) (w : World) (hA : ∀ k, A k → k < w.heap.size) (v0_ : Value) (p0 : GMultiRule) (hp0 : Rd A w v0_ p0) (r : GMultiRule) (hr : F_laws_toMultiRule p0 = some r) :
    Con Try.prog 31 [v0_] A w (fun x_ : Value × Value × Value => .agg #[.int .i64 r.State, x_.1, x_.2.1, x_.2.2, .int .i64 r.Next]) (fun x_ => [.ow 2 x_.1 r.Read, .ow 2 x_.2.1 r.Write, .ow 2 x_.2.2 r.Move]) := by
  obtain ⟨v0_0, v0_1, v0_2, rfl, hp0_0, hp0_1, hp0_2⟩ := GMultiRule.open hp0
  refine Con_of (v := fun (r : GMultiRule) (x_ : Value × Value × Value) => .agg #[.int .i64 r.State, x_.1, x_.2.1, x_.2.2, .int .i64 r.Next]) (fs := fun r x_ => [.ow 2 x_.1 r.Read, .ow 2 x_.2.1 r.Write, .ow 2 x_.2.2 r.Move]) Try.func31 rfl Try.ntmps31 rfl ((((SH.start hA).start_rd rfl hp0_0).start_rd rfl hp0_1).start_rd rfl hp0_2) rfl ?_ hr
  unfold F_laws_toMultiRule
  refine J_seq ?_
  refine J_region ?_
  refine JL_st (wants_none rfl) rfl (st_box' rfl (fun w hh => (cv_aggs ⟨cv_int, (hh.cv 2 rfl), (hh.cv 1 rfl), (hh.cv 0 rfl), cv_int, trivial⟩))) (fun b1 => ?_)
  refine JL_st (wants_none rfl) rfl (st_alloc zi_69 rfl) (fun b2 => ?_)
  refine JL_nil ?_
  refine N_then ?_
  refine J_seq ?_
  refine J_region ?_
  refine JL_st (wants_none rfl) rfl (st_alloc zi_69 rfl) (fun b3 => ?_)
  refine JL_nil ?_
  refine N_then ?_
  refine J_seq ?_
  refine J_region ?_
  refine JL_q (wants_none rfl) rfl (ex_fieldAddr fi_66_0 rfl rfl) ?_
  refine JL_q (wants_none rfl) rfl (ex_load_bx 2 ti_2 rfl rfl rfl) ?_
  refine JL_q (wants_none rfl) rfl (ex_fieldAddr fi_69_0 rfl rfl) ?_
  refine JL_sk (wants_none rfl) (sk_store_bx' 0 ti_2 rfl rfl (fun w hh => cv_int) rfl rfl rfl rfl) ?_
  refine JL_nil ?_
  refine N_then ?_
  refine J_seq ?_
  refine J_region ?_
  refine JL_q (wants_none rfl) rfl (ex_fieldAddr fi_66_1 rfl rfl) ?_
  refine JL_q (wants_none rfl) rfl (ex_load_bx 2 ti_64 rfl rfl rfl) ?_
  refine JL_bnd fun r4 hr5 => ?_
  refine JL_call (wants_none rfl) rfl Try.call47 rfl (Ca_self (fun _ => rfl) fun w hh => c_laws_toInt64S _ w (fun _ hk => hk.elim) _ _ (hh.rd0 5 rfl) _ hr5) (fun x6 => ?_)
  refine JL_q (wants_none rfl) rfl (ex_fieldAddr fi_69_1 rfl rfl) ?_
  refine JL_sk (wants_none rfl) (sk_store_bx' 1 ti_64 rfl rfl (fun w hh => (hh.cv_ow 0 rfl)) rfl rfl rfl rfl) ?_
  refine JL_nil ?_
  refine N_then ?_
  refine J_seq ?_
  refine J_region ?_
  refine JL_q (wants_none rfl) rfl (ex_fieldAddr fi_66_2 rfl rfl) ?_
  refine JL_q (wants_none rfl) rfl (ex_load_bx 3 ti_64 rfl rfl rfl) ?_
  refine JL_bnd fun r7 hr8 => ?_
  refine JL_call (wants_none rfl) rfl Try.call47 rfl (Ca_self (fun _ => rfl) fun w hh => c_laws_toInt64S _ w (fun _ hk => hk.elim) _ _ (hh.rd0 5 rfl) _ hr8) (fun x9 => ?_)
  refine JL_q (wants_none rfl) rfl (ex_fieldAddr fi_69_2 rfl rfl) ?_
  refine JL_sk (wants_none rfl) (sk_store_bx' 2 ti_64 rfl rfl (fun w hh => (hh.cv_ow 0 rfl)) rfl rfl rfl rfl) ?_
  refine JL_nil ?_
  refine N_then ?_
  refine J_seq ?_
  refine J_region ?_
  refine JL_q (wants_none rfl) rfl (ex_fieldAddr fi_66_3 rfl rfl) ?_
  refine JL_q (wants_none rfl) rfl (ex_load_bx 4 ti_64 rfl rfl rfl) ?_
  refine JL_bnd fun r10 hr11 => ?_
  refine JL_call (wants_none rfl) rfl Try.call47 rfl (Ca_self (fun _ => rfl) fun w hh => c_laws_toInt64S _ w (fun _ hk => hk.elim) _ _ (hh.rd0 5 rfl) _ hr11) (fun x12 => ?_)
  refine JL_q (wants_none rfl) rfl (ex_fieldAddr fi_69_3 rfl rfl) ?_
  refine JL_sk (wants_none rfl) (sk_store_bx' 3 ti_64 rfl rfl (fun w hh => (hh.cv_ow 0 rfl)) rfl rfl rfl rfl) ?_
  refine JL_nil ?_
  refine N_then ?_
  refine J_seq ?_
  refine J_region ?_
  refine JL_q (wants_none rfl) rfl (ex_fieldAddr fi_66_4 rfl rfl) ?_
  refine JL_q (wants_none rfl) rfl (ex_load_bx 5 ti_2 rfl rfl rfl) ?_
  refine JL_q (wants_none rfl) rfl (ex_fieldAddr fi_69_4 rfl rfl) ?_
  refine JL_sk (wants_none rfl) (sk_store_bx' 3 ti_2 rfl rfl (fun w hh => cv_int) rfl rfl rfl rfl) ?_
  refine JL_nil ?_
  refine N_then ?_
  refine J_seq ?_
  refine J_region ?_
  refine JL_q (wants_none rfl) rfl (ex_load_bx_agg 3 ti_69 rfl rfl rfl rfl) ?_
  refine JL_sk (wants_none rfl) (sk_store_bx' 4 ti_69 rfl rfl (fun w hh => (cv_aggs ⟨cv_int, (hh.cv_ow 2 rfl), (hh.cv_ow 1 rfl), (hh.cv_ow 0 rfl), cv_int, trivial⟩)) rfl rfl rfl rfl) ?_
  refine JL_nil ?_
  refine N_then ?_
  refine J_ret ?_
  exact N_ret1 rfl (rv_cell 4 rfl rfl ti_69 rfl) (fun w hh => ⟨(x6, x9, x12), rfl, hh.sel [2, 1, 0] rfl⟩)

set_option maxHeartbeats 40000000 in
theorem c_laws_toMultiRuleS (A : Nat → Prop) (w : World) (hA : ∀ k, A k → k < w.heap.size) (v0_ : Value) (p0 : (List GMultiRule)) (hp0 : Rd A w v0_ p0) (r : (List GMultiRule)) (hr : F_laws_toMultiRuleS p0 = some r) :
    Con Try.prog 16 [v0_] A w (fun x_ : Value × List Nat => x_.1) (fun x_ => [.od 69 x_.1 r x_.2]) := by
  refine Con_of (v := fun (r : (List GMultiRule)) (x_ : Value × List Nat) => x_.1) (fs := fun r x_ => [.od 69 x_.1 r x_.2]) Try.func16 rfl Try.ntmps16 rfl ((SH.start hA).start_rd rfl hp0) rfl ?_ hr
  unfold F_laws_toMultiRuleS
  refine J_seq ?_
  refine J_region ?_
  refine JL_q (wants_none rfl) rfl (ex_assign rfl) ?_
  refine JL_nil ?_
  refine N_then ?_
  refine J_seq ?_
  refine J_region ?_
  refine JL_q (wants_none rfl) rfl (ex_move rfl) ?_
  refine JL_q (wants_none rfl) rfl (ex_len_rd 0 Try.underlying22 rfl rfl) ?_
  refine JL_bnd fun z1 hz2 => ?_
  refine JL_st (wants_none rfl) rfl (st_make (α := GMultiRule) Try.underlying31 ti_69 zi_69 bi_69 rfl (fun _ _ => GMultiRule.zero) rfl hz2) (fun b3 => ?_)
  refine JL_ctx (fun w hh => hh.ow_od 0 rfl (mke_nb hz2 (GMultiRule.nb nb_nil nb_nil nb_nil))) ?_
  refine JL_q (wants_none rfl) rfl (ex_assign rfl) ?_
  refine JL_nil ?_
  refine N_then ?_
  refine J_seq ?_
  refine J_seq ?_
  refine J_region ?_
  refine JL_q (wants_none rfl) rfl (ex_assign rfl) ?_
  refine JL_nil ?_
  refine N_then ?_
  refine J_loop' (S := (List GMultiRule) × Int) (G := List Nat) (F_laws_toMultiRuleS_L1 p0) (fun s4 g5 => [(0, v0_), (3, (.slice (some ⟨b3, 0, none⟩) z1.length z1.length)), (4, .int .i64 s4.2)]) (fun s4 g5 => [.rd v0_ p0, .od 69 (.slice (some ⟨b3, 0, none⟩) z1.length z1.length) s4.1 g5]) (z1, 0) ([] : List Nat) ⟨rfl, rfl, rfl, trivial⟩ [1, 0] rfl rfl (fun s4 g5 => ?_) (fun s4 g5 => ?_)
  · unfold F_laws_toMultiRuleS_L1
    refine J_seq ?_
    refine J_seq ?_
    refine J_region ?_
    refine JL_q (wants_none rfl) rfl (ex_move rfl) ?_
    refine JL_q (wants_none rfl) rfl (ex_move rfl) ?_
    refine JL_q (wants_none rfl) rfl (ex_len_rd 0 Try.underlying22 rfl rfl) ?_
    refine JL_q (wants_none rfl) rfl (ex_lss rfl rfl) ?_
    refine JL_nil ?_
    refine N_then ?_
    refine J_if rfl (fun h6 => ?_) (fun h6 => ?_)
    · refine J_skip ?_
      refine N_then ?_
      refine J_seq ?_
      refine J_block ?_
      refine J_region ?_
      refine JL_q (wants_none rfl) rfl (ex_move rfl) ?_
      refine JL_q (wants_none rfl) rfl (ex_move rfl) ?_
      refine JL_q (wants_none rfl) rfl (ex_move rfl) ?_
      refine JL_q (wants_none rfl) rfl (ex_move rfl) ?_
      refine JL_bnd fun y7 hy8 => ?_
      refine JL_st (wants_none rfl) rfl (st_index 0 Try.underlying22 ti_66 rfl rfl rfl hy8) (fun q9 => ?_)
      refine JL_st (wants_none rfl) rfl (st_load_pt_o 0 (GMultiRule.opens _) ti_66 rfl rfl) (fun v10 => ?_)
      refine JL_bnd fun r11 hr12 => ?_
      refine JL_call (wants_none rfl) rfl Try.call31 rfl (Ca_self (fun _ => rfl) fun w hh => c_laws_toMultiRule _ w (fun _ hk => hk.elim) _ _ (GMultiRule.rdmk (Rd.mk_int _ _ _) (hh.rd0 0 rfl) (hh.rd0 1 rfl) (hh.rd0 2 rfl) (Rd.mk_int _ _ _)) _ hr12) (fun x13 => ?_)
      obtain ⟨x13_0, x13_1, x13_2⟩ := x13
      refine JL_bnd fun y14 hy15 => ?_
      refine JL_q (wants_none rfl) rfl (ex_od 8 rfl (ex_index_ow 8 Try.underlying31 ti_69 rfl rfl rfl hy15)) ?_
      refine JL_ctx (fun w hh => hh.tokf 0 rfl rfl) ?_
      refine JL_ctx (fun w hh => hh.tokf 2 rfl rfl) ?_
      refine JL_ctx (fun w hh => hh.tokf 4 rfl rfl) ?_
      refine JL_sk (wants_none rfl) (sk_store_od (B2 := (((x13_0 : Value).ownBlock.toList ++ []) ++ (((x13_1 : Value).ownBlock.toList ++ []) ++ (((x13_2 : Value).ownBlock.toList ++ []) ++ [])))) 11 [2, 1, 0] ti_69 rfl rfl rfl hy15 rfl rfl (fun w hh => (GMultiRule.dw (hh.dw 2 rfl) (hh.dw 1 rfl) (hh.dw 0 rfl)))) ?_
      refine JL_nil ?_
      refine N_block ?_
      refine N_then ?_
      refine J_region ?_
      refine JL_q (wants_none rfl) rfl (ex_move rfl) ?_
      refine JL_q (wants_none rfl) rfl (ex_add rfl rfl) ?_
      refine JL_q (wants_none rfl) rfl (ex_assign rfl) ?_
      refine JL_nil ?_
      exact N_next' (g5 ++ (((x13_0 : Value).ownBlock.toList ++ []) ++ (((x13_1 : Value).ownBlock.toList ++ []) ++ (((x13_2 : Value).ownBlock.toList ++ []) ++ [])))) ⟨rfl, rfl, rfl, trivial⟩ [10, 11] rfl rfl
    · refine J_exit ?_
      refine N_then_exit ?_
      exact N_break' g5 ⟨rfl, rfl, rfl, trivial⟩ [0, 1] rfl rfl
  · refine N_then ?_
    refine J_seq ?_
    refine J_region ?_
    refine JL_q (wants_none rfl) rfl (ex_move rfl) ?_
    refine JL_q (wants_none rfl) rfl (ex_assign rfl) ?_
    refine JL_nil ?_
    refine N_then ?_
    refine J_ret ?_
    exact N_ret1 rfl (rv_tmp rfl) (fun w hh => ⟨((.slice (some ⟨b3, 0, none⟩) z1.length z1.length), g5), rfl, hh.sel [1] rfl⟩)

set_option maxHeartbeats 40000000 in
theorem c_laws_toMulti (A : Nat → Prop) (w : World) (hA : ∀ k, A k → k < w.heap.size) (v0_ : Value) (p0 : GMulti) (hp0 : Rd A w v0_ p0) (r : GMulti) (hr : F_laws_toMulti p0 = some r) :
    Con Try.prog 6 [v0_] A w (fun x_ : Value × List Nat => .agg #[.int .i64 r.Tapes, .int .i64 r.Symbols, .int .i64 r.States, x_.1]) (fun x_ => [.od 69 x_.1 r.Rules x_.2]) := by
  obtain ⟨v0_0, rfl, hp0_0⟩ := GMulti.open hp0
  refine Con_of (v := fun (r : GMulti) (x_ : Value × List Nat) => .agg #[.int .i64 r.Tapes, .int .i64 r.Symbols, .int .i64 r.States, x_.1]) (fs := fun r x_ => [.od 69 x_.1 r.Rules x_.2]) Try.func6 rfl Try.ntmps6 rfl ((SH.start hA).start_rd rfl hp0_0) rfl ?_ hr
  unfold F_laws_toMulti
  refine J_seq ?_
  refine J_region ?_
  refine JL_st (wants_none rfl) rfl (st_box' rfl (fun w hh => (cv_aggs ⟨cv_int, cv_int, cv_int, (hh.cv 0 rfl), trivial⟩))) (fun b1 => ?_)
  refine JL_st (wants_none rfl) rfl (st_alloc zi_33 rfl) (fun b2 => ?_)
  refine JL_nil ?_
  refine N_then ?_
  refine J_seq ?_
  refine J_region ?_
  refine JL_st (wants_none rfl) rfl (st_alloc zi_33 rfl) (fun b3 => ?_)
  refine JL_nil ?_
  refine N_then ?_
  refine J_seq ?_
  refine J_region ?_
  refine JL_q (wants_none rfl) rfl (ex_fieldAddr fi_24_0 rfl rfl) ?_
  refine JL_q (wants_none rfl) rfl (ex_load_bx 2 ti_2 rfl rfl rfl) ?_
  refine JL_q (wants_none rfl) rfl (ex_fieldAddr fi_33_0 rfl rfl) ?_
  refine JL_sk (wants_none rfl) (sk_store_bx' 0 ti_2 rfl rfl (fun w hh => cv_int) rfl rfl rfl rfl) ?_
  refine JL_nil ?_
  refine N_then ?_
  refine J_seq ?_
  refine J_region ?_
  refine JL_q (wants_none rfl) rfl (ex_fieldAddr fi_24_1 rfl rfl) ?_
  refine JL_q (wants_none rfl) rfl (ex_load_bx 2 ti_2 rfl rfl rfl) ?_
  refine JL_q (wants_none rfl) rfl (ex_fieldAddr fi_33_1 rfl rfl) ?_
  refine JL_sk (wants_none rfl) (sk_store_bx' 0 ti_2 rfl rfl (fun w hh => cv_int) rfl rfl rfl rfl) ?_
  refine JL_nil ?_
  refine N_then ?_
  refine J_seq ?_
  refine J_region ?_
  refine JL_q (wants_none rfl) rfl (ex_fieldAddr fi_24_2 rfl rfl) ?_
  refine JL_q (wants_none rfl) rfl (ex_load_bx 2 ti_2 rfl rfl rfl) ?_
  refine JL_q (wants_none rfl) rfl (ex_fieldAddr fi_33_2 rfl rfl) ?_
  refine JL_sk (wants_none rfl) (sk_store_bx' 0 ti_2 rfl rfl (fun w hh => cv_int) rfl rfl rfl rfl) ?_
  refine JL_nil ?_
  refine N_then ?_
  refine J_seq ?_
  refine J_region ?_
  refine JL_q (wants_none rfl) rfl (ex_fieldAddr fi_24_3 rfl rfl) ?_
  refine JL_q (wants_none rfl) rfl (ex_load_bx 2 ti_22 rfl rfl rfl) ?_
  refine JL_bnd fun r4 hr5 => ?_
  refine JL_call (wants_none rfl) rfl Try.call16 rfl (Ca_self (fun _ => rfl) fun w hh => c_laws_toMultiRuleS _ w (fun _ hk => hk.elim) _ _ (hh.rd0 3 rfl) _ hr5) (fun x6 => ?_)
  obtain ⟨x6_0, x6_1⟩ := x6
  refine JL_q (wants_none rfl) rfl (ex_fieldAddr fi_33_3 rfl rfl) ?_
  refine JL_sk (wants_none rfl) (sk_store_bx' 1 ti_31 rfl rfl (fun w hh => (hh.cv_od 0 rfl)) rfl rfl rfl rfl) ?_
  refine JL_nil ?_
  refine N_then ?_
  refine J_seq ?_
  refine J_region ?_
  refine JL_q (wants_none rfl) rfl (ex_load_bx_agg 1 ti_33 rfl rfl rfl rfl) ?_
  refine JL_sk (wants_none rfl) (sk_store_bx' 2 ti_33 rfl rfl (fun w hh => (cv_aggs ⟨cv_int, cv_int, cv_int, (hh.cv_od 0 rfl), trivial⟩)) rfl rfl rfl rfl) ?_
  refine JL_nil ?_
  refine N_then ?_
  refine J_ret ?_
  exact N_ret1 rfl (rv_cell 2 rfl rfl ti_33 rfl) (fun w hh => ⟨(x6_0, x6_1), rfl, hh.sel [0] rfl⟩)

set_option maxHeartbeats 40000000 in
theorem c_spec_l00In (A : Nat → Prop) (w : World) (hA : ∀ k, A k → k < w.heap.size) (p0 : Int) (p1 : Int) (p2 : Int) (r : Bool) (hr : F_spec_l00In p0 p1 p2 = some r) :
    Con Try.prog 26 [.int .i64 p0, .int .i64 p1, .int .i64 p2] A w (fun x_ : Unit => .bool r) (fun x_ => []) := by
  refine Con_of (v := fun (r : Bool) (x_ : Unit) => .bool r) (fs := fun r x_ => []) Try.func26 rfl Try.ntmps26 rfl (SH.start hA) rfl ?_ hr
  unfold F_spec_l00In
  refine J_seq ?_
  refine J_region ?_
  refine JL_q (wants_none rfl) rfl (ex_assign rfl) ?_
  refine JL_nil ?_
  refine N_then ?_
  refine J_seq ?_
  refine J_region ?_
  refine JL_q (wants_none rfl) rfl (ex_move rfl) ?_
  refine JL_q (wants_none rfl) rfl (ex_move rfl) ?_
  refine JL_q (wants_none rfl) rfl (ex_geq rfl rfl) ?_
  refine JL_q (wants_none rfl) rfl (ex_move rfl) ?_
  refine JL_cond (fun h1 => ?_) (fun h1 => ?_)
  · refine JL_q (wants_some rfl rfl rfl h1) rfl (ex_move rfl) ?_
    refine JL_q (wants_some rfl rfl rfl h1) rfl (ex_move rfl) ?_
    refine JL_q (wants_some rfl rfl rfl h1) rfl (ex_leq rfl rfl) ?_
    refine JL_q (wants_none rfl) rfl (ex_pick_true rfl h1 rfl) ?_
    refine JL_q (wants_none rfl) rfl (ex_assign rfl) ?_
    refine JL_nil ?_
    refine N_then ?_
    refine J_ret ?_
    exact N_ret1 rfl (rv_tmp rfl) (fun w hh => ⟨(), rfl, hh.sel [] rfl⟩)
  · refine JL_passed rfl rfl rfl h1 ?_
    refine JL_passed rfl rfl rfl h1 ?_
    refine JL_passed rfl rfl rfl h1 ?_
    refine JL_q (wants_none rfl) rfl (ex_pick_false rfl h1 rfl) ?_
    refine JL_q (wants_none rfl) rfl (ex_assign rfl) ?_
    refine JL_nil ?_
    refine N_then ?_
    refine J_ret ?_
    exact N_ret1 rfl (rv_tmp rfl) (fun w hh => ⟨(), rfl, hh.sel [] rfl⟩)

set_option maxHeartbeats 40000000 in
theorem c_spec_l06Row (A : Nat → Prop) (w : World) (hA : ∀ k, A k → k < w.heap.size) (v0_ : Value) (p0 : (List Int)) (hp0 : Rd A w v0_ p0) (p1 : Int) (p2 : Int) (p3 : Int) (r : Bool) (hr : F_spec_l06Row p0 p1 p2 p3 = some r) :
    Con Try.prog 27 [v0_, .int .i64 p1, .int .i64 p2, .int .i64 p3] A w (fun x_ : Unit => .bool r) (fun x_ => []) := by
  refine Con_of (v := fun (r : Bool) (x_ : Unit) => .bool r) (fs := fun r x_ => []) Try.func27 rfl Try.ntmps27 rfl ((SH.start hA).start_rd rfl hp0) rfl ?_ hr
  unfold F_spec_l06Row
  refine J_seq ?_
  refine J_region ?_
  refine JL_q (wants_none rfl) rfl (ex_assign rfl) ?_
  refine JL_nil ?_
  refine N_then ?_
  refine J_seq ?_
  refine J_seq ?_
  refine J_region ?_
  refine JL_q (wants_none rfl) rfl (ex_move rfl) ?_
  refine JL_q (wants_none rfl) rfl (ex_len_rd 0 Try.underlying64 rfl rfl) ?_
  refine JL_q (wants_none rfl) rfl (ex_move rfl) ?_
  refine JL_q (wants_none rfl) rfl (ex_neq rfl rfl) ?_
  refine JL_nil ?_
  refine N_then ?_
  refine J_if rfl (fun h1 => ?_) (fun h1 => ?_)
  · refine J_seq ?_
    refine J_region ?_
    refine JL_q (wants_none rfl) rfl (ex_assign rfl) ?_
    refine JL_nil ?_
    refine N_then ?_
    refine J_ret ?_
    refine N_then_ret ?_
    exact N_ret1 rfl (rv_tmp rfl) (fun w hh => ⟨(), rfl, hh.sel [] rfl⟩)
  · refine J_skip ?_
    refine N_then ?_
    refine J_seq ?_
    refine J_seq ?_
    refine J_region ?_
    refine JL_q (wants_none rfl) rfl (ex_assign rfl) ?_
    refine JL_nil ?_
    refine N_then ?_
    refine J_loop' (S := Int) (G := Unit) (F_spec_l06Row_L1 p0 p2 p3) (fun s2 _ => [(0, v0_), (2, .int .i64 p2), (3, .int .i64 p3), (9, .int .i64 s2)]) (fun s2 _ => [.rd v0_ p0]) 0 () ⟨rfl, rfl, rfl, rfl, trivial⟩ [0] rfl rfl (fun s2 g3 => ?_) (fun s2 g3 => ?_)
    · unfold F_spec_l06Row_L1
      refine J_seq ?_
      refine J_seq ?_
      refine J_region ?_
      refine JL_q (wants_none rfl) rfl (ex_move rfl) ?_
      refine JL_q (wants_none rfl) rfl (ex_move rfl) ?_
      refine JL_q (wants_none rfl) rfl (ex_len_rd 0 Try.underlying64 rfl rfl) ?_
      refine JL_q (wants_none rfl) rfl (ex_lss rfl rfl) ?_
      refine JL_nil ?_
      refine N_then ?_
      refine J_if rfl (fun h4 => ?_) (fun h4 => ?_)
      · refine J_skip ?_
        refine N_then ?_
        refine J_seq ?_
        refine J_block ?_
        refine J_seq ?_
        refine J_region ?_
        refine JL_q (wants_none rfl) rfl (ex_move rfl) ?_
        refine JL_q (wants_none rfl) rfl (ex_move rfl) ?_
        refine JL_bnd fun y5 hy6 => ?_
        refine JL_st (wants_none rfl) rfl (st_index 0 Try.underlying64 ti_2 rfl rfl rfl hy6) (fun q7 => ?_)
        refine JL_st (wants_none rfl) rfl (st_load_pt_o 0 (opens_int _) ti_2 rfl rfl) (fun _ => ?_)
        refine JL_q (wants_none rfl) rfl (ex_move rfl) ?_
        refine JL_q (wants_none rfl) rfl (ex_move rfl) ?_
        refine JL_bnd fun r9 hr10 => ?_
        refine JL_call (wants_none rfl) rfl Try.call26 rfl (Ca_of0 fun w hh => c_spec_l00In _ w (fun _ hk => hk.elim) _ _ _ _ hr10) (fun _ => ?_)
        refine JL_q (wants_none rfl) rfl (ex_not rfl) ?_
        refine JL_nil ?_
        refine N_then ?_
        refine J_if rfl (fun h11 => ?_) (fun h11 => ?_)
        · refine J_seq ?_
          refine J_region ?_
          refine JL_q (wants_none rfl) rfl (ex_assign rfl) ?_
          refine JL_nil ?_
          refine N_then ?_
          refine J_ret ?_
          refine N_block_ret ?_
          refine N_then_ret ?_
          refine N_round_ret ?_
          refine N_then_ret ?_
          exact N_ret1 rfl (rv_tmp rfl) (fun w hh => ⟨(), rfl, hh.sel [] rfl⟩)
        · refine J_skip ?_
          refine N_block ?_
          refine N_then ?_
          refine J_region ?_
          refine JL_q (wants_none rfl) rfl (ex_move rfl) ?_
          refine JL_q (wants_none rfl) rfl (ex_add rfl rfl) ?_
          refine JL_q (wants_none rfl) rfl (ex_assign rfl) ?_
          refine JL_nil ?_
          exact N_next' () ⟨rfl, rfl, rfl, rfl, trivial⟩ [1] rfl rfl
      · refine J_exit ?_
        refine N_then_exit ?_
        exact N_break' () ⟨rfl, rfl, rfl, rfl, trivial⟩ [0] rfl rfl
    · refine N_then ?_
      refine J_seq ?_
      refine J_region ?_
      refine JL_q (wants_none rfl) rfl (ex_assign rfl) ?_
      refine JL_nil ?_
      refine N_then ?_
      refine J_ret ?_
      exact N_ret1 rfl (rv_tmp rfl) (fun w hh => ⟨(), rfl, hh.sel [] rfl⟩)

set_option maxHeartbeats 40000000 in
theorem c_spec_l01Compare (A : Nat → Prop) (w : World) (hA : ∀ k, A k → k < w.heap.size) (v0_ : Value) (p0 : (List Int)) (hp0 : Rd A w v0_ p0) (v1_ : Value) (p1 : (List Int)) (hp1 : Rd A w v1_ p1) (r : Int) (hr : F_spec_l01Compare p0 p1 = some r) :
    Con Try.prog 43 [v0_, v1_] A w (fun x_ : Unit => .int .i64 r) (fun x_ => []) := by
  refine Con_of (v := fun (r : Int) (x_ : Unit) => .int .i64 r) (fs := fun r x_ => []) Try.func43 rfl Try.ntmps43 rfl (((SH.start hA).start_rd rfl hp0).start_rd rfl hp1) rfl ?_ hr
  unfold F_spec_l01Compare
  refine J_seq ?_
  refine J_region ?_
  refine JL_q (wants_none rfl) rfl (ex_assign rfl) ?_
  refine JL_nil ?_
  refine N_then ?_
  refine J_seq ?_
  refine J_seq ?_
  refine J_region ?_
  refine JL_q (wants_none rfl) rfl (ex_assign rfl) ?_
  refine JL_nil ?_
  refine N_then ?_
  refine J_loop' (S := Int) (G := Unit) (F_spec_l01Compare_L1 p0 p1) (fun s1 _ => [(0, v0_), (1, v1_), (5, .int .i64 s1)]) (fun s1 _ => [.rd v0_ p0, .rd v1_ p1]) 0 () ⟨rfl, rfl, rfl, trivial⟩ [1, 0] rfl rfl (fun s1 g2 => ?_) (fun s1 g2 => ?_)
  · unfold F_spec_l01Compare_L1
    refine J_seq ?_
    refine J_seq ?_
    refine J_region ?_
    refine JL_q (wants_none rfl) rfl (ex_move rfl) ?_
    refine JL_q (wants_none rfl) rfl (ex_move rfl) ?_
    refine JL_q (wants_none rfl) rfl (ex_len_rd 0 Try.underlying64 rfl rfl) ?_
    refine JL_q (wants_none rfl) rfl (ex_lss rfl rfl) ?_
    refine JL_q (wants_none rfl) rfl (ex_move rfl) ?_
    refine JL_cond (fun h3 => ?_) (fun h3 => ?_)
    · refine JL_q (wants_some rfl rfl rfl h3) rfl (ex_move rfl) ?_
      refine JL_q (wants_some rfl rfl rfl h3) rfl (ex_move rfl) ?_
      refine JL_q (wants_some rfl rfl rfl h3) rfl (ex_len_rd 1 Try.underlying64 rfl rfl) ?_
      refine JL_q (wants_some rfl rfl rfl h3) rfl (ex_lss rfl rfl) ?_
      refine JL_q (wants_none rfl) rfl (ex_pick_true rfl h3 rfl) ?_
      refine JL_nil ?_
      refine N_then ?_
      refine J_if rfl (fun h4 => ?_) (fun h4 => ?_)
      · refine J_skip ?_
        refine N_then ?_
        refine J_seq ?_
        refine J_block ?_
        refine J_seq ?_
        refine J_seq ?_
        refine J_draw [] (by kernel_rfl) ?_
        refine JP_take (i := 0) [0, 1] [] rfl (by kernel_rfl) (by kernel_rfl) (by kernel_rfl) rfl rfl (wants_none rfl) rfl (ex_move rfl) ?_
        refine JP_take (i := 1) [0, 1] [] rfl (by kernel_rfl) (by kernel_rfl) (by kernel_rfl) rfl rfl (wants_none rfl) rfl (ex_move rfl) ?_
        refine JP_bnd fun y5 hy6 => ?_
        refine JP_sq (i := 2) [] rfl (by kernel_rfl) (by kernel_rfl) (by kernel_rfl) rfl (wants_none rfl) rfl (sq_index 0 Try.underlying64 ti_2 rfl rfl rfl hy6) (fun q7 => ?_)
        refine JP_sq (i := 3) [] rfl (by kernel_rfl) (by kernel_rfl) (by kernel_rfl) rfl (wants_none rfl) rfl (sq_load_pt_o 0 (opens_int _) ti_2 rfl rfl) (fun _ => ?_)
        refine JP_take (i := 4) [0, 1, 2] [] rfl (by kernel_rfl) (by kernel_rfl) (by kernel_rfl) rfl rfl (wants_none rfl) rfl (ex_move rfl) ?_
        refine JP_take (i := 5) [0, 1, 2] [] rfl (by kernel_rfl) (by kernel_rfl) (by kernel_rfl) rfl rfl (wants_none rfl) rfl (ex_move rfl) ?_
        refine JP_bnd fun y9 hy10 => ?_
        refine JP_sq (i := 6) [] rfl (by kernel_rfl) (by kernel_rfl) (by kernel_rfl) rfl (wants_none rfl) rfl (sq_index 2 Try.underlying64 ti_2 rfl rfl rfl hy10) (fun q11 => ?_)
        refine JP_sq (i := 7) [] rfl (by kernel_rfl) (by kernel_rfl) (by kernel_rfl) rfl (wants_none rfl) rfl (sq_load_pt_o 0 (opens_int _) ti_2 rfl rfl) (fun _ => ?_)
        refine JP_take (i := 8) [0, 1, 2, 3] [] rfl (by kernel_rfl) (by kernel_rfl) (by kernel_rfl) rfl rfl (wants_none rfl) rfl (ex_lss rfl rfl) ?_
        refine JP_go [] [] rfl rfl rfl (fun _ _ _ => ?_)
        refine JD_done (by kernel_rfl) ?_
        refine N_then ?_
        refine J_if rfl (fun h13 => ?_) (fun h13 => ?_)
        · refine J_seq ?_
          refine J_region ?_
          refine JL_q (wants_none rfl) rfl (ex_assign rfl) ?_
          refine JL_nil ?_
          refine N_then ?_
          refine J_ret ?_
          refine N_then_ret ?_
          refine N_block_ret ?_
          refine N_then_ret ?_
          refine N_round_ret ?_
          refine N_then_ret ?_
          exact N_ret1 rfl (rv_tmp rfl) (fun w hh => ⟨(), rfl, hh.sel [] rfl⟩)
        · refine J_skip ?_
          refine N_then ?_
          refine J_seq ?_
          refine J_draw [] (by kernel_rfl) ?_
          refine JP_take (i := 0) [0, 1, 2, 3] [] rfl (by kernel_rfl) (by kernel_rfl) (by kernel_rfl) rfl rfl (wants_none rfl) rfl (ex_move rfl) ?_
          refine JP_take (i := 1) [0, 1, 2, 3] [] rfl (by kernel_rfl) (by kernel_rfl) (by kernel_rfl) rfl rfl (wants_none rfl) rfl (ex_move rfl) ?_
          refine JP_bnd fun y14 hy15 => ?_
          refine JP_sq (i := 2) [] rfl (by kernel_rfl) (by kernel_rfl) (by kernel_rfl) rfl (wants_none rfl) rfl (sq_index 2 Try.underlying64 ti_2 rfl rfl rfl hy15) (fun q16 => ?_)
          refine JP_sq (i := 3) [] rfl (by kernel_rfl) (by kernel_rfl) (by kernel_rfl) rfl (wants_none rfl) rfl (sq_load_pt_o 0 (opens_int _) ti_2 rfl rfl) (fun _ => ?_)
          refine JP_take (i := 4) [0, 1, 2, 3, 4] [] rfl (by kernel_rfl) (by kernel_rfl) (by kernel_rfl) rfl rfl (wants_none rfl) rfl (ex_move rfl) ?_
          refine JP_take (i := 5) [0, 1, 2, 3, 4] [] rfl (by kernel_rfl) (by kernel_rfl) (by kernel_rfl) rfl rfl (wants_none rfl) rfl (ex_move rfl) ?_
          refine JP_bnd fun y18 hy19 => ?_
          refine JP_sq (i := 6) [] rfl (by kernel_rfl) (by kernel_rfl) (by kernel_rfl) rfl (wants_none rfl) rfl (sq_index 4 Try.underlying64 ti_2 rfl rfl rfl hy19) (fun q20 => ?_)
          refine JP_sq (i := 7) [] rfl (by kernel_rfl) (by kernel_rfl) (by kernel_rfl) rfl (wants_none rfl) rfl (sq_load_pt_o 0 (opens_int _) ti_2 rfl rfl) (fun _ => ?_)
          refine JP_take (i := 8) [0, 1, 2, 3, 4, 5] [] rfl (by kernel_rfl) (by kernel_rfl) (by kernel_rfl) rfl rfl (wants_none rfl) rfl (ex_gtr rfl rfl) ?_
          refine JP_go [] [] rfl rfl rfl (fun _ _ _ => ?_)
          refine JD_done (by kernel_rfl) ?_
          refine N_then ?_
          refine J_if rfl (fun h22 => ?_) (fun h22 => ?_)
          · refine J_seq ?_
            refine J_region ?_
            refine JL_q (wants_none rfl) rfl (ex_assign rfl) ?_
            refine JL_nil ?_
            refine N_then ?_
            refine J_ret ?_
            refine N_block_ret ?_
            refine N_then_ret ?_
            refine N_round_ret ?_
            refine N_then_ret ?_
            exact N_ret1 rfl (rv_tmp rfl) (fun w hh => ⟨(), rfl, hh.sel [] rfl⟩)
          · refine J_skip ?_
            refine N_block ?_
            refine N_then ?_
            refine J_region ?_
            refine JL_q (wants_none rfl) rfl (ex_move rfl) ?_
            refine JL_q (wants_none rfl) rfl (ex_add rfl rfl) ?_
            refine JL_q (wants_none rfl) rfl (ex_assign rfl) ?_
            refine JL_nil ?_
            exact N_next' () ⟨rfl, rfl, rfl, trivial⟩ [4, 5] rfl rfl
      · refine J_exit ?_
        refine N_then_exit ?_
        exact N_break' () ⟨rfl, rfl, rfl, trivial⟩ [0, 1] rfl rfl
    · refine JL_passed rfl rfl rfl h3 ?_
      refine JL_passed rfl rfl rfl h3 ?_
      refine JL_passed rfl rfl rfl h3 ?_
      refine JL_passed rfl rfl rfl h3 ?_
      refine JL_q (wants_none rfl) rfl (ex_pick_false rfl h3 rfl) ?_
      refine JL_nil ?_
      refine N_then ?_
      refine J_if_false rfl rfl ?_
      refine J_exit ?_
      refine N_then_exit ?_
      exact N_break' () ⟨rfl, rfl, rfl, trivial⟩ [0, 1] rfl rfl
  · refine N_then ?_
    refine J_seq ?_
    refine J_seq ?_
    refine J_region ?_
    refine JL_q (wants_none rfl) rfl (ex_move rfl) ?_
    refine JL_q (wants_none rfl) rfl (ex_len_rd 0 Try.underlying64 rfl rfl) ?_
    refine JL_q (wants_none rfl) rfl (ex_move rfl) ?_
    refine JL_q (wants_none rfl) rfl (ex_len_rd 1 Try.underlying64 rfl rfl) ?_
    refine JL_q (wants_none rfl) rfl (ex_lss rfl rfl) ?_
    refine JL_nil ?_
    refine N_then ?_
    refine J_if rfl (fun h23 => ?_) (fun h23 => ?_)
    · refine J_seq ?_
      refine J_region ?_
      refine JL_q (wants_none rfl) rfl (ex_assign rfl) ?_
      refine JL_nil ?_
      refine N_then ?_
      refine J_ret ?_
      refine N_then_ret ?_
      exact N_ret1 rfl (rv_tmp rfl) (fun w hh => ⟨(), rfl, hh.sel [] rfl⟩)
    · refine J_skip ?_
      refine N_then ?_
      refine J_seq ?_
      refine J_seq ?_
      refine J_region ?_
      refine JL_q (wants_none rfl) rfl (ex_move rfl) ?_
      refine JL_q (wants_none rfl) rfl (ex_len_rd 0 Try.underlying64 rfl rfl) ?_
      refine JL_q (wants_none rfl) rfl (ex_move rfl) ?_
      refine JL_q (wants_none rfl) rfl (ex_len_rd 1 Try.underlying64 rfl rfl) ?_
      refine JL_q (wants_none rfl) rfl (ex_gtr rfl rfl) ?_
      refine JL_nil ?_
      refine N_then ?_
      refine J_if rfl (fun h24 => ?_) (fun h24 => ?_)
      · refine J_seq ?_
        refine J_region ?_
        refine JL_q (wants_none rfl) rfl (ex_assign rfl) ?_
        refine JL_nil ?_
        refine N_then ?_
        refine J_ret ?_
        refine N_then_ret ?_
        exact N_ret1 rfl (rv_tmp rfl) (fun w hh => ⟨(), rfl, hh.sel [] rfl⟩)
      · refine J_skip ?_
        refine N_then ?_
        refine J_seq ?_
        refine J_region ?_
        refine JL_q (wants_none rfl) rfl (ex_assign rfl) ?_
        refine JL_nil ?_
        refine N_then ?_
        refine J_ret ?_
        exact N_ret1 rfl (rv_tmp rfl) (fun w hh => ⟨(), rfl, hh.sel [] rfl⟩)

set_option maxHeartbeats 40000000 in
theorem c_spec_l06Before (A : Nat → Prop) (w : World) (hA : ∀ k, A k → k < w.heap.size) (v0_ : Value) (p0 : GMultiRule) (hp0 : RdA A w.heap.size w v0_ p0) (v1_ : Value) (p1 : GMultiRule) (hp1 : RdA A w.heap.size w v1_ p1) (r : Bool) (hr : F_spec_l06Before p0 p1 = some r) :
    Con Try.prog 28 [v0_, v1_] A w (fun x_ : Unit => .bool r) (fun x_ => []) := by
  refine Con_of (v := fun (r : Bool) (x_ : Unit) => .bool r) (fs := fun r x_ => []) Try.func28 rfl Try.ntmps28 rfl (((SH.start hA).start_pa' rfl hp0).start_pa' rfl hp1) rfl ?_ hr
  unfold F_spec_l06Before
  refine J_seq ?_
  refine J_region ?_
  refine JL_q (wants_none rfl) rfl (ex_assign rfl) ?_
  refine JL_nil ?_
  refine N_then ?_
  refine J_seq ?_
  refine J_draw [] (by kernel_rfl) ?_
  refine JP_take (i := 0) [0, 1] [] rfl (by kernel_rfl) (by kernel_rfl) (by kernel_rfl) rfl rfl (wants_none rfl) rfl (ex_move rfl) ?_
  refine JP_take (i := 1) [0, 1] [] rfl (by kernel_rfl) (by kernel_rfl) (by kernel_rfl) rfl rfl (wants_none rfl) rfl (ex_nilCheck_pa 1 rfl rfl) ?_
  refine JP_sq (i := 2) [] rfl (by kernel_rfl) (by kernel_rfl) (by kernel_rfl) rfl (wants_none rfl) rfl (sq_field_pa 1 (GMultiRule.at_State _) fi_69_0 rfl rfl rfl) (fun q1 => ?_)
  refine JP_sq (i := 3) [] rfl (by kernel_rfl) (by kernel_rfl) (by kernel_rfl) rfl (wants_none rfl) rfl (sq_load_pa_o 0 (opens_int _) ti_2 rfl rfl) (fun _ => ?_)
  refine JP_take (i := 4) [0, 1, 2] [] rfl (by kernel_rfl) (by kernel_rfl) (by kernel_rfl) rfl rfl (wants_none rfl) rfl (ex_move rfl) ?_
  refine JP_take (i := 5) [0, 1, 2] [] rfl (by kernel_rfl) (by kernel_rfl) (by kernel_rfl) rfl rfl (wants_none rfl) rfl (ex_nilCheck_pa 1 rfl rfl) ?_
  refine JP_sq (i := 6) [] rfl (by kernel_rfl) (by kernel_rfl) (by kernel_rfl) rfl (wants_none rfl) rfl (sq_field_pa 1 (GMultiRule.at_State _) fi_69_0 rfl rfl rfl) (fun q3 => ?_)
  refine JP_sq (i := 7) [] rfl (by kernel_rfl) (by kernel_rfl) (by kernel_rfl) rfl (wants_none rfl) rfl (sq_load_pa_o 0 (opens_int _) ti_2 rfl rfl) (fun _ => ?_)
  refine JP_take (i := 8) [0, 1, 2, 3] [] rfl (by kernel_rfl) (by kernel_rfl) (by kernel_rfl) rfl rfl (wants_none rfl) rfl (ex_lss rfl rfl) ?_
  refine JP_take (i := 9) [0, 1, 2, 3] [] rfl (by kernel_rfl) (by kernel_rfl) (by kernel_rfl) rfl rfl (wants_none rfl) rfl (ex_move rfl) ?_
  refine JP_cond (fun h5 => ?_) (fun h5 => ?_)
  · refine JP_pass (i := 10) rfl (by kernel_rfl) (by kernel_rfl) (by kernel_rfl) rfl rfl h5 rfl ?_
    refine JP_pass (i := 11) rfl (by kernel_rfl) (by kernel_rfl) (by kernel_rfl) rfl rfl h5 rfl ?_
    refine JP_pass (i := 12) rfl (by kernel_rfl) (by kernel_rfl) (by kernel_rfl) rfl rfl h5 rfl ?_
    refine JP_pass (i := 13) rfl (by kernel_rfl) (by kernel_rfl) (by kernel_rfl) rfl rfl h5 rfl ?_
    refine JP_pass (i := 14) rfl (by kernel_rfl) (by kernel_rfl) (by kernel_rfl) rfl rfl h5 rfl ?_
    refine JP_pass (i := 15) rfl (by kernel_rfl) (by kernel_rfl) (by kernel_rfl) rfl rfl h5 rfl ?_
    refine JP_pass (i := 16) rfl (by kernel_rfl) (by kernel_rfl) (by kernel_rfl) rfl rfl h5 rfl ?_
    refine JP_pass (i := 17) rfl (by kernel_rfl) (by kernel_rfl) (by kernel_rfl) rfl rfl h5 rfl ?_
    refine JP_pass (i := 18) rfl (by kernel_rfl) (by kernel_rfl) (by kernel_rfl) rfl rfl h5 rfl ?_
    refine JP_pass (i := 19) rfl (by kernel_rfl) (by kernel_rfl) (by kernel_rfl) rfl rfl h5 rfl ?_
    refine JP_pass_undef (i := 20) rfl (by kernel_rfl) (by kernel_rfl) (by kernel_rfl) rfl rfl rfl ?_
    refine JP_pass_undef (i := 21) rfl (by kernel_rfl) (by kernel_rfl) (by kernel_rfl) rfl rfl rfl ?_
    refine JP_pass_undef (i := 22) rfl (by kernel_rfl) (by kernel_rfl) (by kernel_rfl) rfl rfl rfl ?_
    refine JP_pass_undef (i := 23) rfl (by kernel_rfl) (by kernel_rfl) (by kernel_rfl) rfl rfl rfl ?_
    refine JP_pass_undef (i := 24) rfl (by kernel_rfl) (by kernel_rfl) (by kernel_rfl) rfl rfl rfl ?_
    refine JP_pass_undef (i := 25) rfl (by kernel_rfl) (by kernel_rfl) (by kernel_rfl) rfl rfl rfl ?_
    refine JP_pass_undef (i := 26) rfl (by kernel_rfl) (by kernel_rfl) (by kernel_rfl) rfl rfl rfl ?_
    refine JP_pass_undef (i := 27) rfl (by kernel_rfl) (by kernel_rfl) (by kernel_rfl) rfl rfl rfl ?_
    refine JP_pass_undef (i := 28) rfl (by kernel_rfl) (by kernel_rfl) (by kernel_rfl) rfl rfl rfl ?_
    refine JP_pass_undef (i := 29) rfl (by kernel_rfl) (by kernel_rfl) (by kernel_rfl) rfl rfl rfl ?_
    refine JP_pass (i := 30) rfl (by kernel_rfl) (by kernel_rfl) (by kernel_rfl) rfl rfl h5 rfl ?_
    refine JP_take (i := 31) [0, 1, 2, 3] [] rfl (by kernel_rfl) (by kernel_rfl) (by kernel_rfl) rfl rfl (wants_none rfl) rfl (ex_pick_true rfl h5 rfl) ?_
    refine JP_take (i := 32) [0, 1, 2, 3] [] rfl (by kernel_rfl) (by kernel_rfl) (by kernel_rfl) rfl rfl (wants_none rfl) rfl (ex_assign rfl) ?_
    refine JP_go [] [] rfl rfl rfl (fun _ _ _ => ?_)
    refine JD_done (by kernel_rfl) ?_
    refine N_then ?_
    refine J_ret ?_
    exact N_ret1 rfl (rv_tmp rfl) (fun w hh => ⟨(), rfl, hh.sel [] rfl⟩)
  · refine JP_take (i := 10) [0, 1, 2, 3] [] rfl (by kernel_rfl) (by kernel_rfl) (by kernel_rfl) rfl rfl (wants_some rfl rfl rfl h5) rfl (ex_move rfl) ?_
    refine JP_take (i := 11) [0, 1, 2, 3] [] rfl (by kernel_rfl) (by kernel_rfl) (by kernel_rfl) rfl rfl (wants_some rfl rfl rfl h5) rfl (ex_nilCheck_pa 3 rfl rfl) ?_
    refine JP_sq (i := 12) [] rfl (by kernel_rfl) (by kernel_rfl) (by kernel_rfl) rfl (wants_some rfl rfl rfl h5) rfl (sq_field_pa 3 (GMultiRule.at_State _) fi_69_0 rfl rfl rfl) (fun q6 => ?_)
    refine JP_sq (i := 13) [] rfl (by kernel_rfl) (by kernel_rfl) (by kernel_rfl) rfl (wants_some rfl rfl rfl h5) rfl (sq_load_pa_o 0 (opens_int _) ti_2 rfl rfl) (fun _ => ?_)
    refine JP_take (i := 14) [0, 1, 2, 3, 4] [] rfl (by kernel_rfl) (by kernel_rfl) (by kernel_rfl) rfl rfl (wants_some rfl rfl rfl h5) rfl (ex_move rfl) ?_
    refine JP_take (i := 15) [0, 1, 2, 3, 4] [] rfl (by kernel_rfl) (by kernel_rfl) (by kernel_rfl) rfl rfl (wants_some rfl rfl rfl h5) rfl (ex_nilCheck_pa 3 rfl rfl) ?_
    refine JP_sq (i := 16) [] rfl (by kernel_rfl) (by kernel_rfl) (by kernel_rfl) rfl (wants_some rfl rfl rfl h5) rfl (sq_field_pa 3 (GMultiRule.at_State _) fi_69_0 rfl rfl rfl) (fun q8 => ?_)
    refine JP_sq (i := 17) [] rfl (by kernel_rfl) (by kernel_rfl) (by kernel_rfl) rfl (wants_some rfl rfl rfl h5) rfl (sq_load_pa_o 0 (opens_int _) ti_2 rfl rfl) (fun _ => ?_)
    refine JP_take (i := 18) [0, 1, 2, 3, 4, 5] [] rfl (by kernel_rfl) (by kernel_rfl) (by kernel_rfl) rfl rfl (wants_some rfl rfl rfl h5) rfl (ex_eql rfl rfl) ?_
    refine JP_take (i := 19) [0, 1, 2, 3, 4, 5] [] rfl (by kernel_rfl) (by kernel_rfl) (by kernel_rfl) rfl rfl (wants_some rfl rfl rfl h5) rfl (ex_move rfl) ?_
    refine JP_cond (fun h10 => ?_) (fun h10 => ?_)
    · refine JP_take (i := 20) [0, 1, 2, 3, 4, 5] [] rfl (by kernel_rfl) (by kernel_rfl) (by kernel_rfl) rfl rfl (wants_some rfl rfl rfl h10) rfl (ex_move rfl) ?_
      refine JP_take (i := 21) [0, 1, 2, 3, 4, 5] [] rfl (by kernel_rfl) (by kernel_rfl) (by kernel_rfl) rfl rfl (wants_some rfl rfl rfl h10) rfl (ex_nilCheck_pa 5 rfl rfl) ?_
      refine JP_sq (i := 22) [] rfl (by kernel_rfl) (by kernel_rfl) (by kernel_rfl) rfl (wants_some rfl rfl rfl h10) rfl (sq_field_pa 5 (GMultiRule.at_Read _) fi_69_1 rfl rfl rfl) (fun q11 => ?_)
      refine JP_sq (i := 23) [] rfl (by kernel_rfl) (by kernel_rfl) (by kernel_rfl) rfl (wants_some rfl rfl rfl h10) rfl (sq_load_pa_o 0 (opens_sl _) ti_64 rfl rfl) (fun v12 => ?_)
      refine JP_take (i := 24) [0, 1, 2, 3, 4, 5, 6, 7] [] rfl (by kernel_rfl) (by kernel_rfl) (by kernel_rfl) rfl rfl (wants_some rfl rfl rfl h10) rfl (ex_move rfl) ?_
      refine JP_take (i := 25) [0, 1, 2, 3, 4, 5, 6, 7] [] rfl (by kernel_rfl) (by kernel_rfl) (by kernel_rfl) rfl rfl (wants_some rfl rfl rfl h10) rfl (ex_nilCheck_pa 6 rfl rfl) ?_
      refine JP_sq (i := 26) [] rfl (by kernel_rfl) (by kernel_rfl) (by kernel_rfl) rfl (wants_some rfl rfl rfl h10) rfl (sq_field_pa 6 (GMultiRule.at_Read _) fi_69_1 rfl rfl rfl) (fun q13 => ?_)
      refine JP_sq (i := 27) [] rfl (by kernel_rfl) (by kernel_rfl) (by kernel_rfl) rfl (wants_some rfl rfl rfl h10) rfl (sq_load_pa_o 0 (opens_sl _) ti_64 rfl rfl) (fun v14 => ?_)
      refine JP_go [0, 1, 2, 3, 4, 5, 6, 7, 8, 9] [] rfl rfl rfl (fun w16 h1_17 hp15 => ?_)
      refine JD_bnd fun r18 hr19 => ?_
      refine JD_one (i := 28) (by kernel_rfl) ?_
      refine JO_call rfl (wants_some rfl rfl rfl h10) rfl Try.call43 rfl (Ca_of0 fun w hh => c_spec_l01Compare _ w (fun _ hk => hk.elim) _ _ (hh.rd0 2 rfl) _ _ (hh.rd0 0 rfl) _ hr19) (fun _ => ?_)
      refine JD_take (i := 29) hp15 rfl (by kernel_rfl) (by kernel_rfl) (by kernel_rfl) (wants_some rfl rfl rfl h10) rfl (ex_lss rfl rfl) ?_
      refine JD_take (i := 30) hp15 rfl (by kernel_rfl) (by kernel_rfl) (by kernel_rfl) (wants_some rfl rfl rfl h5) rfl (ex_pick_true rfl h10 rfl) ?_
      refine JD_take (i := 31) hp15 rfl (by kernel_rfl) (by kernel_rfl) (by kernel_rfl) (wants_none rfl) rfl (ex_pick_false rfl h5 rfl) ?_
      refine JD_take (i := 32) hp15 rfl (by kernel_rfl) (by kernel_rfl) (by kernel_rfl) (wants_none rfl) rfl (ex_assign rfl) ?_
      refine JD_done (by kernel_rfl) ?_
      refine N_then ?_
      refine J_ret ?_
      exact N_ret1 rfl (rv_tmp rfl) (fun w hh => ⟨(), rfl, hh.sel [] rfl⟩)
    · refine JP_pass (i := 20) rfl (by kernel_rfl) (by kernel_rfl) (by kernel_rfl) rfl rfl h10 rfl ?_
      refine JP_pass (i := 21) rfl (by kernel_rfl) (by kernel_rfl) (by kernel_rfl) rfl rfl h10 rfl ?_
      refine JP_pass (i := 22) rfl (by kernel_rfl) (by kernel_rfl) (by kernel_rfl) rfl rfl h10 rfl ?_
      refine JP_pass (i := 23) rfl (by kernel_rfl) (by kernel_rfl) (by kernel_rfl) rfl rfl h10 rfl ?_
      refine JP_pass (i := 24) rfl (by kernel_rfl) (by kernel_rfl) (by kernel_rfl) rfl rfl h10 rfl ?_
      refine JP_pass (i := 25) rfl (by kernel_rfl) (by kernel_rfl) (by kernel_rfl) rfl rfl h10 rfl ?_
      refine JP_pass (i := 26) rfl (by kernel_rfl) (by kernel_rfl) (by kernel_rfl) rfl rfl h10 rfl ?_
      refine JP_pass (i := 27) rfl (by kernel_rfl) (by kernel_rfl) (by kernel_rfl) rfl rfl h10 rfl ?_
      refine JP_pass (i := 28) rfl (by kernel_rfl) (by kernel_rfl) (by kernel_rfl) rfl rfl h10 rfl ?_
      refine JP_pass (i := 29) rfl (by kernel_rfl) (by kernel_rfl) (by kernel_rfl) rfl rfl h10 rfl ?_
      refine JP_take (i := 30) [0, 1, 2, 3, 4, 5] [] rfl (by kernel_rfl) (by kernel_rfl) (by kernel_rfl) rfl rfl (wants_some rfl rfl rfl h5) rfl (ex_pick_false rfl h10 rfl) ?_
      refine JP_take (i := 31) [0, 1, 2, 3, 4, 5] [] rfl (by kernel_rfl) (by kernel_rfl) (by kernel_rfl) rfl rfl (wants_none rfl) rfl (ex_pick_false rfl h5 rfl) ?_
      refine JP_take (i := 32) [0, 1, 2, 3, 4, 5] [] rfl (by kernel_rfl) (by kernel_rfl) (by kernel_rfl) rfl rfl (wants_none rfl) rfl (ex_assign rfl) ?_
      refine JP_go [] [] rfl rfl rfl (fun _ _ _ => ?_)
      refine JD_done (by kernel_rfl) ?_
      refine N_then ?_
      refine J_ret ?_
      exact N_ret1 rfl (rv_tmp rfl) (fun w hh => ⟨(), rfl, hh.sel [] rfl⟩)

set_option maxHeartbeats 40000000 in
theorem c_spec_l06Is (A : Nat → Prop) (w : World) (hA : ∀ k, A k → k < w.heap.size) (v0_ : Value) (p0 : GMulti) (hp0 : RdA A w.heap.size w v0_ p0) (r : Bool) (hr : F_spec_l06Is p0 = some r) :
    Con Try.prog 14 [v0_] A w (fun x_ : Unit => .bool r) (fun x_ => []) := by
  refine Con_of (v := fun (r : Bool) (x_ : Unit) => .bool r) (fs := fun r x_ => []) Try.func14 rfl Try.ntmps14 rfl ((SH.start hA).start_pa' rfl hp0) rfl ?_ hr
  unfold F_spec_l06Is
  refine J_seq ?_
  refine J_region ?_
  refine JL_q (wants_none rfl) rfl (ex_assign rfl) ?_
  refine JL_nil ?_
  refine N_then ?_
  refine J_seq ?_
  refine J_cut' (S' := Unit) (G' := Unit) (fun _ _ => [(0, v0_)]) (fun _ _ => [.pa v0_ p0]) ?_ (fun s1 g2 => ?_)
  · refine J_seq ?_
    refine J_region ?_
    refine JL_q (wants_none rfl) rfl (ex_move rfl) ?_
    refine JL_q (wants_none rfl) rfl (ex_nilCheck_pa 0 rfl rfl) ?_
    refine JL_st (wants_none rfl) rfl (st_field_pa 0 (GMulti.at_Tapes _) fi_33_0 rfl rfl rfl) (fun q3 => ?_)
    refine JL_st (wants_none rfl) rfl (st_load_pa_o 0 (opens_int _) ti_2 rfl rfl) (fun _ => ?_)
    refine JL_bnd fun r5 hr6 => ?_
    refine JL_call (wants_none rfl) rfl Try.call26 rfl (Ca_of0 fun w hh => c_spec_l00In _ w (fun _ hk => hk.elim) _ _ _ _ hr6) (fun _ => ?_)
    refine JL_q (wants_none rfl) rfl (ex_not rfl) ?_
    refine JL_q (wants_none rfl) rfl (ex_move rfl) ?_
    refine JL_cond (fun h7 => ?_) (fun h7 => ?_)
    · refine JL_passed rfl rfl rfl h7 ?_
      refine JL_passed rfl rfl rfl h7 ?_
      refine JL_passed rfl rfl rfl h7 ?_
      refine JL_passed rfl rfl rfl h7 ?_
      refine JL_passed rfl rfl rfl h7 ?_
      refine JL_passed rfl rfl rfl h7 ?_
      refine JL_q (wants_none rfl) rfl (ex_pick_true rfl h7 rfl) ?_
      refine JL_q (wants_none rfl) rfl (ex_move rfl) ?_
      refine JL_passed rfl rfl rfl rfl ?_
      refine JL_passed rfl rfl rfl rfl ?_
      refine JL_passed rfl rfl rfl rfl ?_
      refine JL_passed rfl rfl rfl rfl ?_
      refine JL_passed rfl rfl rfl rfl ?_
      refine JL_passed rfl rfl rfl rfl ?_
      refine JL_q (wants_none rfl) rfl (ex_pick_true rfl rfl rfl) ?_
      refine JL_q (wants_none rfl) rfl (ex_move rfl) ?_
      refine JL_passed rfl rfl rfl rfl ?_
      refine JL_passed rfl rfl rfl rfl ?_
      refine JL_passed rfl rfl rfl rfl ?_
      refine JL_passed rfl rfl rfl rfl ?_
      refine JL_passed rfl rfl rfl rfl ?_
      refine JL_passed rfl rfl rfl rfl ?_
      refine JL_q (wants_none rfl) rfl (ex_pick_true rfl rfl rfl) ?_
      refine JL_nil ?_
      refine N_then ?_
      refine J_if_true rfl rfl ?_
      refine J_seq ?_
      refine J_region ?_
      refine JL_q (wants_none rfl) rfl (ex_assign rfl) ?_
      refine JL_nil ?_
      refine N_then ?_
      refine J_ret ?_
      refine N_mid_ret ?_
      refine N_then_ret ?_
      exact N_ret1 rfl (rv_tmp rfl) (fun w hh => ⟨(), rfl, hh.sel [] rfl⟩)
    · refine JL_q (wants_some rfl rfl rfl h7) rfl (ex_move rfl) ?_
      refine JL_q (wants_some rfl rfl rfl h7) rfl (ex_nilCheck_pa 1 rfl rfl) ?_
      refine JL_st (wants_some rfl rfl rfl h7) rfl (st_field_pa 1 (GMulti.at_Symbols _) fi_33_1 rfl rfl rfl) (fun q8 => ?_)
      refine JL_st (wants_some rfl rfl rfl h7) rfl (st_load_pa_o 0 (opens_int _) ti_2 rfl rfl) (fun _ => ?_)
      refine JL_bnd fun r10 hr11 => ?_
      refine JL_call (wants_some rfl rfl rfl h7) rfl Try.call26 rfl (Ca_of0 fun w hh => c_spec_l00In _ w (fun _ hk => hk.elim) _ _ _ _ hr11) (fun _ => ?_)
      refine JL_q (wants_some rfl rfl rfl h7) rfl (ex_not rfl) ?_
      refine JL_q (wants_none rfl) rfl (ex_pick_false rfl h7 rfl) ?_
      refine JL_q (wants_none rfl) rfl (ex_move rfl) ?_
      refine JL_cond (fun h12 => ?_) (fun h12 => ?_)
      · refine JL_passed rfl rfl rfl h12 ?_
        refine JL_passed rfl rfl rfl h12 ?_
        refine JL_passed rfl rfl rfl h12 ?_
        refine JL_passed rfl rfl rfl h12 ?_
        refine JL_passed rfl rfl rfl h12 ?_
        refine JL_passed rfl rfl rfl h12 ?_
        refine JL_q (wants_none rfl) rfl (ex_pick_true rfl h12 rfl) ?_
        refine JL_q (wants_none rfl) rfl (ex_move rfl) ?_
        refine JL_passed rfl rfl rfl rfl ?_
        refine JL_passed rfl rfl rfl rfl ?_
        refine JL_passed rfl rfl rfl rfl ?_
        refine JL_passed rfl rfl rfl rfl ?_
        refine JL_passed rfl rfl rfl rfl ?_
        refine JL_passed rfl rfl rfl rfl ?_
        refine JL_q (wants_none rfl) rfl (ex_pick_true rfl rfl rfl) ?_
        refine JL_nil ?_
        refine N_then ?_
        refine J_if_true rfl rfl ?_
        refine J_seq ?_
        refine J_region ?_
        refine JL_q (wants_none rfl) rfl (ex_assign rfl) ?_
        refine JL_nil ?_
        refine N_then ?_
        refine J_ret ?_
        refine N_mid_ret ?_
        refine N_then_ret ?_
        exact N_ret1 rfl (rv_tmp rfl) (fun w hh => ⟨(), rfl, hh.sel [] rfl⟩)
      · refine JL_q (wants_some rfl rfl rfl h12) rfl (ex_move rfl) ?_
        refine JL_q (wants_some rfl rfl rfl h12) rfl (ex_nilCheck_pa 2 rfl rfl) ?_
        refine JL_st (wants_some rfl rfl rfl h12) rfl (st_field_pa 2 (GMulti.at_States _) fi_33_2 rfl rfl rfl) (fun q13 => ?_)
        refine JL_st (wants_some rfl rfl rfl h12) rfl (st_load_pa_o 0 (opens_int _) ti_2 rfl rfl) (fun _ => ?_)
        refine JL_bnd fun r15 hr16 => ?_
        refine JL_call (wants_some rfl rfl rfl h12) rfl Try.call26 rfl (Ca_of0 fun w hh => c_spec_l00In _ w (fun _ hk => hk.elim) _ _ _ _ hr16) (fun _ => ?_)
        refine JL_q (wants_some rfl rfl rfl h12) rfl (ex_not rfl) ?_
        refine JL_q (wants_none rfl) rfl (ex_pick_false rfl h12 rfl) ?_
        refine JL_q (wants_none rfl) rfl (ex_move rfl) ?_
        refine JL_cond (fun h17 => ?_) (fun h17 => ?_)
        · refine JL_passed rfl rfl rfl h17 ?_
          refine JL_passed rfl rfl rfl h17 ?_
          refine JL_passed rfl rfl rfl h17 ?_
          refine JL_passed rfl rfl rfl h17 ?_
          refine JL_passed rfl rfl rfl h17 ?_
          refine JL_passed rfl rfl rfl h17 ?_
          refine JL_q (wants_none rfl) rfl (ex_pick_true rfl h17 rfl) ?_
          refine JL_nil ?_
          refine N_then ?_
          refine J_if_true rfl rfl ?_
          refine J_seq ?_
          refine J_region ?_
          refine JL_q (wants_none rfl) rfl (ex_assign rfl) ?_
          refine JL_nil ?_
          refine N_then ?_
          refine J_ret ?_
          refine N_mid_ret ?_
          refine N_then_ret ?_
          exact N_ret1 rfl (rv_tmp rfl) (fun w hh => ⟨(), rfl, hh.sel [] rfl⟩)
        · refine JL_q (wants_some rfl rfl rfl h17) rfl (ex_move rfl) ?_
          refine JL_q (wants_some rfl rfl rfl h17) rfl (ex_nilCheck_pa 3 rfl rfl) ?_
          refine JL_st (wants_some rfl rfl rfl h17) rfl (st_field_pa 3 (GMulti.at_Rules _) fi_33_3 rfl rfl rfl) (fun q18 => ?_)
          refine JL_st (wants_some rfl rfl rfl h17) rfl (st_load_pa_o 0 (opens_sl _) ti_31 rfl rfl) (fun v19 => ?_)
          refine JL_q (wants_some rfl rfl rfl h17) rfl (ex_len_rd 0 Try.underlying31 rfl rfl) ?_
          refine JL_q (wants_some rfl rfl rfl h17) rfl (ex_gtr rfl rfl) ?_
          refine JL_q (wants_none rfl) rfl (ex_pick_false rfl h17 rfl) ?_
          refine JL_nil ?_
          refine N_then ?_
          refine J_if rfl (fun h20 => ?_) (fun h20 => ?_)
          · refine J_seq ?_
            refine J_region ?_
            refine JL_q (wants_none rfl) rfl (ex_assign rfl) ?_
            refine JL_nil ?_
            refine N_then ?_
            refine J_ret ?_
            refine N_mid_ret ?_
            refine N_then_ret ?_
            exact N_ret1 rfl (rv_tmp rfl) (fun w hh => ⟨(), rfl, hh.sel [] rfl⟩)
          · refine J_skip ?_
            exact N_meet' () ⟨rfl, trivial⟩ [5] rfl rfl
  · refine N_then ?_
    refine J_seq ?_
    refine J_seq ?_
    refine J_region ?_
    refine JL_q (wants_none rfl) rfl (ex_assign rfl) ?_
    refine JL_nil ?_
    refine N_then ?_
    refine J_loop' (S := Int) (G := Unit) (F_spec_l06Is_L1 p0) (fun s21 _ => [(0, v0_), (3, .int .i64 s21)]) (fun s21 _ => [.pa v0_ p0]) 0 () ⟨rfl, rfl, trivial⟩ [0] rfl rfl (fun s21 g22 => ?_) (fun s21 g22 => ?_)
    · unfold F_spec_l06Is_L1
      refine J_seq ?_
      refine J_seq ?_
      refine J_region ?_
      refine JL_q (wants_none rfl) rfl (ex_move rfl) ?_
      refine JL_q (wants_none rfl) rfl (ex_move rfl) ?_
      refine JL_q (wants_none rfl) rfl (ex_nilCheck_pa 0 rfl rfl) ?_
      refine JL_st (wants_none rfl) rfl (st_field_pa 0 (GMulti.at_Rules _) fi_33_3 rfl rfl rfl) (fun q23 => ?_)
      refine JL_st (wants_none rfl) rfl (st_load_pa_o 0 (opens_sl _) ti_31 rfl rfl) (fun v24 => ?_)
      refine JL_q (wants_none rfl) rfl (ex_len_rd 0 Try.underlying31 rfl rfl) ?_
      refine JL_q (wants_none rfl) rfl (ex_lss rfl rfl) ?_
      refine JL_nil ?_
      refine N_then ?_
      refine J_if rfl (fun h25 => ?_) (fun h25 => ?_)
      · refine J_skip ?_
        refine N_then ?_
        refine J_seq ?_
        refine J_block ?_
        refine J_seq ?_
        refine J_region ?_
        refine JL_q (wants_none rfl) rfl (ex_move rfl) ?_
        refine JL_q (wants_none rfl) rfl (ex_nilCheck_pa 2 rfl rfl) ?_
        refine JL_st (wants_none rfl) rfl (st_field_pa 2 (GMulti.at_Rules _) fi_33_3 rfl rfl rfl) (fun q26 => ?_)
        refine JL_st (wants_none rfl) rfl (st_load_pa_o 0 (opens_sl _) ti_31 rfl rfl) (fun v27 => ?_)
        refine JL_q (wants_none rfl) rfl (ex_move rfl) ?_
        refine JL_bnd fun y28 hy29 => ?_
        refine JL_st (wants_none rfl) rfl (st_index 0 Try.underlying31 ti_69 rfl rfl rfl hy29) (fun q30 => ?_)
        refine JL_q (wants_none rfl) rfl (ex_assign rfl) ?_
        refine JL_nil ?_
        refine N_then ?_
        refine J_seq ?_
        refine J_cut' (S' := Unit) (G' := Unit) (fun _ _ => [(0, v0_), (3, .int .i64 s21), (4, q30)]) (fun _ _ => [.pa v0_ p0, .pt q30 y28]) ?_ (fun s31 g32 => ?_)
        · refine J_seq ?_
          refine J_draw [] (by kernel_rfl) ?_
          refine JP_take (i := 0) [0, 1, 2, 3, 4, 5] [] rfl (by kernel_rfl) (by kernel_rfl) (by kernel_rfl) rfl rfl (wants_none rfl) rfl (ex_move rfl) ?_
          refine JP_take (i := 1) [0, 1, 2, 3, 4, 5] [] rfl (by kernel_rfl) (by kernel_rfl) (by kernel_rfl) rfl rfl (wants_none rfl) rfl (ex_nilCheck_pt 0 rfl rfl) ?_
          refine JP_sq (i := 2) [] rfl (by kernel_rfl) (by kernel_rfl) (by kernel_rfl) rfl (wants_none rfl) rfl (sq_field_pt 0 (GMultiRule.at_State _) fi_69_0 rfl rfl rfl) (fun q33 => ?_)
          refine JP_sq (i := 3) [] rfl (by kernel_rfl) (by kernel_rfl) (by kernel_rfl) rfl (wants_none rfl) rfl (sq_load_pt_o 0 (opens_int _) ti_2 rfl rfl) (fun _ => ?_)
          refine JP_take (i := 4) [0, 1, 2, 3, 4, 5, 6] [] rfl (by kernel_rfl) (by kernel_rfl) (by kernel_rfl) rfl rfl (wants_none rfl) rfl (ex_move rfl) ?_
          refine JP_take (i := 5) [0, 1, 2, 3, 4, 5, 6] [] rfl (by kernel_rfl) (by kernel_rfl) (by kernel_rfl) rfl rfl (wants_none rfl) rfl (ex_nilCheck_pa 6 rfl rfl) ?_
          refine JP_sq (i := 6) [] rfl (by kernel_rfl) (by kernel_rfl) (by kernel_rfl) rfl (wants_none rfl) rfl (sq_field_pa 6 (GMulti.at_States _) fi_33_2 rfl rfl rfl) (fun q35 => ?_)
          refine JP_sq (i := 7) [] rfl (by kernel_rfl) (by kernel_rfl) (by kernel_rfl) rfl (wants_none rfl) rfl (sq_load_pa_o 0 (opens_int _) ti_2 rfl rfl) (fun _ => ?_)
          refine JP_take (i := 8) [0, 1, 2, 3, 4, 5, 6, 7] [] rfl (by kernel_rfl) (by kernel_rfl) (by kernel_rfl) rfl rfl (wants_none rfl) rfl (ex_sub rfl rfl) ?_
          refine JP_go [0, 1, 2, 3, 4, 5, 6, 7] [] rfl rfl rfl (fun w38 h1_39 hp37 => ?_)
          refine JD_bnd fun r40 hr41 => ?_
          refine JD_one (i := 9) (by kernel_rfl) ?_
          refine JO_call rfl (wants_none rfl) rfl Try.call26 rfl (Ca_of0 fun w hh => c_spec_l00In _ w (fun _ hk => hk.elim) _ _ _ _ hr41) (fun _ => ?_)
          refine JD_take (i := 10) hp37 rfl (by kernel_rfl) (by kernel_rfl) (by kernel_rfl) (wants_none rfl) rfl (ex_not rfl) ?_
          refine JD_take (i := 11) hp37 rfl (by kernel_rfl) (by kernel_rfl) (by kernel_rfl) (wants_none rfl) rfl (ex_move rfl) ?_
          refine JD_cond (fun h42 => ?_) (fun h42 => ?_)
          · refine JD_pass (i := 12) rfl (by kernel_rfl) (by kernel_rfl) (by kernel_rfl) rfl rfl h42 rfl ?_
            refine JD_pass (i := 13) rfl (by kernel_rfl) (by kernel_rfl) (by kernel_rfl) rfl rfl h42 rfl ?_
            refine JD_pass (i := 14) rfl (by kernel_rfl) (by kernel_rfl) (by kernel_rfl) rfl rfl h42 rfl ?_
            refine JD_pass (i := 15) rfl (by kernel_rfl) (by kernel_rfl) (by kernel_rfl) rfl rfl h42 rfl ?_
            refine JD_pass (i := 16) rfl (by kernel_rfl) (by kernel_rfl) (by kernel_rfl) rfl rfl h42 rfl ?_
            refine JD_pass (i := 17) rfl (by kernel_rfl) (by kernel_rfl) (by kernel_rfl) rfl rfl h42 rfl ?_
            refine JD_pass (i := 18) rfl (by kernel_rfl) (by kernel_rfl) (by kernel_rfl) rfl rfl h42 rfl ?_
            refine JD_pass (i := 19) rfl (by kernel_rfl) (by kernel_rfl) (by kernel_rfl) rfl rfl h42 rfl ?_
            refine JD_pass (i := 20) rfl (by kernel_rfl) (by kernel_rfl) (by kernel_rfl) rfl rfl h42 rfl ?_
            refine JD_pass (i := 21) rfl (by kernel_rfl) (by kernel_rfl) (by kernel_rfl) rfl rfl h42 rfl ?_
            refine JD_pass (i := 22) rfl (by kernel_rfl) (by kernel_rfl) (by kernel_rfl) rfl rfl h42 rfl ?_
            refine JD_take (i := 23) hp37 rfl (by kernel_rfl) (by kernel_rfl) (by kernel_rfl) (wants_none rfl) rfl (ex_pick_true rfl h42 rfl) ?_
            refine JD_done (by kernel_rfl) ?_
            refine N_then ?_
            refine J_if_true rfl rfl ?_
            refine J_seq ?_
            refine J_region ?_
            refine JL_q (wants_none rfl) rfl (ex_assign rfl) ?_
            refine JL_nil ?_
            refine N_then ?_
            refine J_ret ?_
            refine N_mid_ret ?_
            refine N_then_ret ?_
            refine N_block_ret ?_
            refine N_then_ret ?_
            refine N_round_ret ?_
            refine N_then_ret ?_
            exact N_ret1 rfl (rv_tmp rfl) (fun w hh => ⟨(), rfl, hh.sel [] rfl⟩)
          · refine JD_take (i := 12) hp37 rfl (by kernel_rfl) (by kernel_rfl) (by kernel_rfl) (wants_some rfl rfl rfl h42) rfl (ex_move rfl) ?_
            refine JD_take (i := 13) hp37 rfl (by kernel_rfl) (by kernel_rfl) (by kernel_rfl) (wants_some rfl rfl rfl h42) rfl (ex_nilCheck_pt 2 rfl rfl) ?_
            refine JD_sq (i := 14) (fs := fun q43 => [.pt q43 y28.Next]) [] h1_39 rfl rfl (by kernel_rfl) (by kernel_rfl) (by kernel_rfl) (wants_some rfl rfl rfl h42) rfl (sq_field_pt 2 (GMultiRule.at_Next _) fi_69_4 rfl rfl rfl) (fun _ => rfl) (fun q43 h1_44 => ?_)
            refine JD_sq (i := 15) [] h1_44 rfl rfl (by kernel_rfl) (by kernel_rfl) (by kernel_rfl) (wants_some rfl rfl rfl h42) rfl (sq_load_pt_o 0 (opens_int _) ti_2 rfl rfl) (fun _ => rfl) (fun _ h1_46 => ?_)
            refine JD_take (i := 16) hp37 rfl (by kernel_rfl) (by kernel_rfl) (by kernel_rfl) (wants_some rfl rfl rfl h42) rfl (ex_move rfl) ?_
            refine JD_take (i := 17) hp37 rfl (by kernel_rfl) (by kernel_rfl) (by kernel_rfl) (wants_some rfl rfl rfl h42) rfl (ex_nilCheck_pa 7 rfl rfl) ?_
            refine JD_sq (i := 18) (fs := fun q47 => [.pa q47 p0.States]) [] h1_46 rfl rfl (by kernel_rfl) (by kernel_rfl) (by kernel_rfl) (wants_some rfl rfl rfl h42) rfl (sq_field_pa 8 (GMulti.at_States _) fi_33_2 rfl rfl rfl) (fun _ => rfl) (fun q47 h1_48 => ?_)
            refine JD_sq (i := 19) [] h1_48 rfl rfl (by kernel_rfl) (by kernel_rfl) (by kernel_rfl) (wants_some rfl rfl rfl h42) rfl (sq_load_pa_o 0 (opens_int _) ti_2 rfl rfl) (fun _ => rfl) (fun _ h1_50 => ?_)
            refine JD_take (i := 20) hp37 rfl (by kernel_rfl) (by kernel_rfl) (by kernel_rfl) (wants_some rfl rfl rfl h42) rfl (ex_sub rfl rfl) ?_
            refine JD_bnd fun r51 hr52 => ?_
            refine JD_one (i := 21) (by kernel_rfl) ?_
            refine JO_call rfl (wants_some rfl rfl rfl h42) rfl Try.call26 rfl (Ca_of0 fun w hh => c_spec_l00In _ w (fun _ hk => hk.elim) _ _ _ _ hr52) (fun _ => ?_)
            refine JD_take (i := 22) hp37 rfl (by kernel_rfl) (by kernel_rfl) (by kernel_rfl) (wants_some rfl rfl rfl h42) rfl (ex_not rfl) ?_
            refine JD_take (i := 23) hp37 rfl (by kernel_rfl) (by kernel_rfl) (by kernel_rfl) (wants_none rfl) rfl (ex_pick_false rfl h42 rfl) ?_
            refine JD_done (by kernel_rfl) ?_
            refine N_then ?_
            refine J_if rfl (fun h53 => ?_) (fun h53 => ?_)
            · refine J_seq ?_
              refine J_region ?_
              refine JL_q (wants_none rfl) rfl (ex_assign rfl) ?_
              refine JL_nil ?_
              refine N_then ?_
              refine J_ret ?_
              refine N_mid_ret ?_
              refine N_then_ret ?_
              refine N_block_ret ?_
              refine N_then_ret ?_
              refine N_round_ret ?_
              refine N_then_ret ?_
              exact N_ret1 rfl (rv_tmp rfl) (fun w hh => ⟨(), rfl, hh.sel [] rfl⟩)
            · refine J_skip ?_
              exact N_meet' () ⟨rfl, rfl, rfl, trivial⟩ [9, 4] rfl rfl
        · refine N_then ?_
          refine J_seq ?_
          refine J_cut' (S' := Unit) (G' := Unit) (fun _ _ => [(0, v0_), (3, .int .i64 s21), (4, q30)]) (fun _ _ => [.pa v0_ p0, .pt q30 y28]) ?_ (fun s54 g55 => ?_)
          · refine J_seq ?_
            refine J_draw [] (by kernel_rfl) ?_
            refine JP_take (i := 0) [0, 1] [] rfl (by kernel_rfl) (by kernel_rfl) (by kernel_rfl) rfl rfl (wants_none rfl) rfl (ex_move rfl) ?_
            refine JP_take (i := 1) [0, 1] [] rfl (by kernel_rfl) (by kernel_rfl) (by kernel_rfl) rfl rfl (wants_none rfl) rfl (ex_nilCheck_pt 1 rfl rfl) ?_
            refine JP_sq (i := 2) [] rfl (by kernel_rfl) (by kernel_rfl) (by kernel_rfl) rfl (wants_none rfl) rfl (sq_field_pt 1 (GMultiRule.at_Read _) fi_69_1 rfl rfl rfl) (fun q56 => ?_)
            refine JP_sq (i := 3) [] rfl (by kernel_rfl) (by kernel_rfl) (by kernel_rfl) rfl (wants_none rfl) rfl (sq_load_pt_o 0 (opens_sl _) ti_64 rfl rfl) (fun v57 => ?_)
            refine JP_take (i := 4) [0, 1, 2, 3] [] rfl (by kernel_rfl) (by kernel_rfl) (by kernel_rfl) rfl rfl (wants_none rfl) rfl (ex_move rfl) ?_
            refine JP_take (i := 5) [0, 1, 2, 3] [] rfl (by kernel_rfl) (by kernel_rfl) (by kernel_rfl) rfl rfl (wants_none rfl) rfl (ex_nilCheck_pa 2 rfl rfl) ?_
            refine JP_sq (i := 6) [] rfl (by kernel_rfl) (by kernel_rfl) (by kernel_rfl) rfl (wants_none rfl) rfl (sq_field_pa 2 (GMulti.at_Tapes _) fi_33_0 rfl rfl rfl) (fun q58 => ?_)
            refine JP_sq (i := 7) [] rfl (by kernel_rfl) (by kernel_rfl) (by kernel_rfl) rfl (wants_none rfl) rfl (sq_load_pa_o 0 (opens_int _) ti_2 rfl rfl) (fun _ => ?_)
            refine JP_take (i := 8) [0, 1, 2, 3, 4] [] rfl (by kernel_rfl) (by kernel_rfl) (by kernel_rfl) rfl rfl (wants_none rfl) rfl (ex_move rfl) ?_
            refine JP_take (i := 9) [0, 1, 2, 3, 4] [] rfl (by kernel_rfl) (by kernel_rfl) (by kernel_rfl) rfl rfl (wants_none rfl) rfl (ex_nilCheck_pa 3 rfl rfl) ?_
            refine JP_sq (i := 10) [] rfl (by kernel_rfl) (by kernel_rfl) (by kernel_rfl) rfl (wants_none rfl) rfl (sq_field_pa 3 (GMulti.at_Symbols _) fi_33_1 rfl rfl rfl) (fun q60 => ?_)
            refine JP_sq (i := 11) [] rfl (by kernel_rfl) (by kernel_rfl) (by kernel_rfl) rfl (wants_none rfl) rfl (sq_load_pa_o 0 (opens_int _) ti_2 rfl rfl) (fun _ => ?_)
            refine JP_take (i := 12) [0, 1, 2, 3, 4, 5] [] rfl (by kernel_rfl) (by kernel_rfl) (by kernel_rfl) rfl rfl (wants_none rfl) rfl (ex_sub rfl rfl) ?_
            refine JP_go [0, 1, 2, 3, 4, 5] [] rfl rfl rfl (fun w63 h1_64 hp62 => ?_)
            refine JD_bnd fun r65 hr66 => ?_
            refine JD_one (i := 13) (by kernel_rfl) ?_
            refine JO_call rfl (wants_none rfl) rfl Try.call27 rfl (Ca_of0 fun w hh => c_spec_l06Row _ w (fun _ hk => hk.elim) _ _ (hh.rd0 2 rfl) _ _ _ _ hr66) (fun _ => ?_)
            refine JD_take (i := 14) hp62 rfl (by kernel_rfl) (by kernel_rfl) (by kernel_rfl) (wants_none rfl) rfl (ex_not rfl) ?_
            refine JD_take (i := 15) hp62 rfl (by kernel_rfl) (by kernel_rfl) (by kernel_rfl) (wants_none rfl) rfl (ex_move rfl) ?_
            refine JD_cond (fun h67 => ?_) (fun h67 => ?_)
            · refine JD_pass (i := 16) rfl (by kernel_rfl) (by kernel_rfl) (by kernel_rfl) rfl rfl h67 rfl ?_
              refine JD_pass (i := 17) rfl (by kernel_rfl) (by kernel_rfl) (by kernel_rfl) rfl rfl h67 rfl ?_
              refine JD_pass (i := 18) rfl (by kernel_rfl) (by kernel_rfl) (by kernel_rfl) rfl rfl h67 rfl ?_
              refine JD_pass (i := 19) rfl (by kernel_rfl) (by kernel_rfl) (by kernel_rfl) rfl rfl h67 rfl ?_
              refine JD_pass (i := 20) rfl (by kernel_rfl) (by kernel_rfl) (by kernel_rfl) rfl rfl h67 rfl ?_
              refine JD_pass (i := 21) rfl (by kernel_rfl) (by kernel_rfl) (by kernel_rfl) rfl rfl h67 rfl ?_
              refine JD_pass (i := 22) rfl (by kernel_rfl) (by kernel_rfl) (by kernel_rfl) rfl rfl h67 rfl ?_
              refine JD_pass (i := 23) rfl (by kernel_rfl) (by kernel_rfl) (by kernel_rfl) rfl rfl h67 rfl ?_
              refine JD_pass (i := 24) rfl (by kernel_rfl) (by kernel_rfl) (by kernel_rfl) rfl rfl h67 rfl ?_
              refine JD_pass (i := 25) rfl (by kernel_rfl) (by kernel_rfl) (by kernel_rfl) rfl rfl h67 rfl ?_
              refine JD_pass (i := 26) rfl (by kernel_rfl) (by kernel_rfl) (by kernel_rfl) rfl rfl h67 rfl ?_
              refine JD_pass (i := 27) rfl (by kernel_rfl) (by kernel_rfl) (by kernel_rfl) rfl rfl h67 rfl ?_
              refine JD_pass (i := 28) rfl (by kernel_rfl) (by kernel_rfl) (by kernel_rfl) rfl rfl h67 rfl ?_
              refine JD_pass (i := 29) rfl (by kernel_rfl) (by kernel_rfl) (by kernel_rfl) rfl rfl h67 rfl ?_
              refine JD_pass (i := 30) rfl (by kernel_rfl) (by kernel_rfl) (by kernel_rfl) rfl rfl h67 rfl ?_
              refine JD_take (i := 31) hp62 rfl (by kernel_rfl) (by kernel_rfl) (by kernel_rfl) (wants_none rfl) rfl (ex_pick_true rfl h67 rfl) ?_
              refine JD_take (i := 32) hp62 rfl (by kernel_rfl) (by kernel_rfl) (by kernel_rfl) (wants_none rfl) rfl (ex_move rfl) ?_
              refine JD_pass (i := 33) rfl (by kernel_rfl) (by kernel_rfl) (by kernel_rfl) rfl rfl rfl rfl ?_
              refine JD_pass (i := 34) rfl (by kernel_rfl) (by kernel_rfl) (by kernel_rfl) rfl rfl rfl rfl ?_
              refine JD_pass (i := 35) rfl (by kernel_rfl) (by kernel_rfl) (by kernel_rfl) rfl rfl rfl rfl ?_
              refine JD_pass (i := 36) rfl (by kernel_rfl) (by kernel_rfl) (by kernel_rfl) rfl rfl rfl rfl ?_
              refine JD_pass (i := 37) rfl (by kernel_rfl) (by kernel_rfl) (by kernel_rfl) rfl rfl rfl rfl ?_
              refine JD_pass (i := 38) rfl (by kernel_rfl) (by kernel_rfl) (by kernel_rfl) rfl rfl rfl rfl ?_
              refine JD_pass (i := 39) rfl (by kernel_rfl) (by kernel_rfl) (by kernel_rfl) rfl rfl rfl rfl ?_
              refine JD_pass (i := 40) rfl (by kernel_rfl) (by kernel_rfl) (by kernel_rfl) rfl rfl rfl rfl ?_
              refine JD_pass (i := 41) rfl (by kernel_rfl) (by kernel_rfl) (by kernel_rfl) rfl rfl rfl rfl ?_
              refine JD_pass (i := 42) rfl (by kernel_rfl) (by kernel_rfl) (by kernel_rfl) rfl rfl rfl rfl ?_
              refine JD_take (i := 43) hp62 rfl (by kernel_rfl) (by kernel_rfl) (by kernel_rfl) (wants_none rfl) rfl (ex_pick_true rfl rfl rfl) ?_
              refine JD_done (by kernel_rfl) ?_
              refine N_then ?_
              refine J_if_true rfl rfl ?_
              refine J_seq ?_
              refine J_region ?_
              refine JL_q (wants_none rfl) rfl (ex_assign rfl) ?_
              refine JL_nil ?_
              refine N_then ?_
              refine J_ret ?_
              refine N_mid_ret ?_
              refine N_then_ret ?_
              refine N_block_ret ?_
              refine N_then_ret ?_
              refine N_round_ret ?_
              refine N_then_ret ?_
              exact N_ret1 rfl (rv_tmp rfl) (fun w hh => ⟨(), rfl, hh.sel [] rfl⟩)
            · refine JD_take (i := 16) hp62 rfl (by kernel_rfl) (by kernel_rfl) (by kernel_rfl) (wants_some rfl rfl rfl h67) rfl (ex_move rfl) ?_
              refine JD_take (i := 17) hp62 rfl (by kernel_rfl) (by kernel_rfl) (by kernel_rfl) (wants_some rfl rfl rfl h67) rfl (ex_nilCheck_pt 5 rfl rfl) ?_
              refine JD_sq (i := 18) (fs := fun q68 => [.pt q68 y28.Write]) [] h1_64 rfl rfl (by kernel_rfl) (by kernel_rfl) (by kernel_rfl) (wants_some rfl rfl rfl h67) rfl (sq_field_pt 5 (GMultiRule.at_Write _) fi_69_2 rfl rfl rfl) (fun _ => rfl) (fun q68 h1_69 => ?_)
              refine JD_sq (i := 19) [] h1_69 rfl rfl (by kernel_rfl) (by kernel_rfl) (by kernel_rfl) (wants_some rfl rfl rfl h67) rfl (sq_load_pt_o 0 (opens_sl _) ti_64 rfl rfl) (fun _ => rfl) (fun v70 h1_71 => ?_)
              refine JD_take (i := 20) hp62 rfl (by kernel_rfl) (by kernel_rfl) (by kernel_rfl) (wants_some rfl rfl rfl h67) rfl (ex_move rfl) ?_
              refine JD_take (i := 21) hp62 rfl (by kernel_rfl) (by kernel_rfl) (by kernel_rfl) (wants_some rfl rfl rfl h67) rfl (ex_nilCheck_pa 4 rfl rfl) ?_
              refine JD_sq (i := 22) (fs := fun q72 => [.pa q72 p0.Tapes]) [] h1_71 rfl rfl (by kernel_rfl) (by kernel_rfl) (by kernel_rfl) (wants_some rfl rfl rfl h67) rfl (sq_field_pa 6 (GMulti.at_Tapes _) fi_33_0 rfl rfl rfl) (fun _ => rfl) (fun q72 h1_73 => ?_)
              refine JD_sq (i := 23) [] h1_73 rfl rfl (by kernel_rfl) (by kernel_rfl) (by kernel_rfl) (wants_some rfl rfl rfl h67) rfl (sq_load_pa_o 0 (opens_int _) ti_2 rfl rfl) (fun _ => rfl) (fun _ h1_75 => ?_)
              refine JD_take (i := 24) hp62 rfl (by kernel_rfl) (by kernel_rfl) (by kernel_rfl) (wants_some rfl rfl rfl h67) rfl (ex_move rfl) ?_
              refine JD_take (i := 25) hp62 rfl (by kernel_rfl) (by kernel_rfl) (by kernel_rfl) (wants_some rfl rfl rfl h67) rfl (ex_nilCheck_pa 4 rfl rfl) ?_
              refine JD_sq (i := 26) (fs := fun q76 => [.pa q76 p0.Symbols]) [] h1_75 rfl rfl (by kernel_rfl) (by kernel_rfl) (by kernel_rfl) (wants_some rfl rfl rfl h67) rfl (sq_field_pa 7 (GMulti.at_Symbols _) fi_33_1 rfl rfl rfl) (fun _ => rfl) (fun q76 h1_77 => ?_)
              refine JD_sq (i := 27) [] h1_77 rfl rfl (by kernel_rfl) (by kernel_rfl) (by kernel_rfl) (wants_some rfl rfl rfl h67) rfl (sq_load_pa_o 0 (opens_int _) ti_2 rfl rfl) (fun _ => rfl) (fun _ h1_79 => ?_)
              refine JD_take (i := 28) hp62 rfl (by kernel_rfl) (by kernel_rfl) (by kernel_rfl) (wants_some rfl rfl rfl h67) rfl (ex_sub rfl rfl) ?_
              refine JD_bnd fun r80 hr81 => ?_
              refine JD_one (i := 29) (by kernel_rfl) ?_
              refine JO_call rfl (wants_some rfl rfl rfl h67) rfl Try.call27 rfl (Ca_of0 fun w hh => c_spec_l06Row _ w (fun _ hk => hk.elim) _ _ (hh.rd0 2 rfl) _ _ _ _ hr81) (fun _ => ?_)
              refine JD_take (i := 30) hp62 rfl (by kernel_rfl) (by kernel_rfl) (by kernel_rfl) (wants_some rfl rfl rfl h67) rfl (ex_not rfl) ?_
              refine JD_take (i := 31) hp62 rfl (by kernel_rfl) (by kernel_rfl) (by kernel_rfl) (wants_none rfl) rfl (ex_pick_false rfl h67 rfl) ?_
              refine JD_take (i := 32) hp62 rfl (by kernel_rfl) (by kernel_rfl) (by kernel_rfl) (wants_none rfl) rfl (ex_move rfl) ?_
              refine JD_cond (fun h82 => ?_) (fun h82 => ?_)
              · refine JD_pass (i := 33) rfl (by kernel_rfl) (by kernel_rfl) (by kernel_rfl) rfl rfl h82 rfl ?_
                refine JD_pass (i := 34) rfl (by kernel_rfl) (by kernel_rfl) (by kernel_rfl) rfl rfl h82 rfl ?_
                refine JD_pass (i := 35) rfl (by kernel_rfl) (by kernel_rfl) (by kernel_rfl) rfl rfl h82 rfl ?_
                refine JD_pass (i := 36) rfl (by kernel_rfl) (by kernel_rfl) (by kernel_rfl) rfl rfl h82 rfl ?_
                refine JD_pass (i := 37) rfl (by kernel_rfl) (by kernel_rfl) (by kernel_rfl) rfl rfl h82 rfl ?_
                refine JD_pass (i := 38) rfl (by kernel_rfl) (by kernel_rfl) (by kernel_rfl) rfl rfl h82 rfl ?_
                refine JD_pass (i := 39) rfl (by kernel_rfl) (by kernel_rfl) (by kernel_rfl) rfl rfl h82 rfl ?_
                refine JD_pass (i := 40) rfl (by kernel_rfl) (by kernel_rfl) (by kernel_rfl) rfl rfl h82 rfl ?_
                refine JD_pass (i := 41) rfl (by kernel_rfl) (by kernel_rfl) (by kernel_rfl) rfl rfl h82 rfl ?_
                refine JD_pass (i := 42) rfl (by kernel_rfl) (by kernel_rfl) (by kernel_rfl) rfl rfl h82 rfl ?_
                refine JD_take (i := 43) hp62 rfl (by kernel_rfl) (by kernel_rfl) (by kernel_rfl) (wants_none rfl) rfl (ex_pick_true rfl h82 rfl) ?_
                refine JD_done (by kernel_rfl) ?_
                refine N_then ?_
                refine J_if_true rfl rfl ?_
                refine J_seq ?_
                refine J_region ?_
                refine JL_q (wants_none rfl) rfl (ex_assign rfl) ?_
                refine JL_nil ?_
                refine N_then ?_
                refine J_ret ?_
                refine N_mid_ret ?_
                refine N_then_ret ?_
                refine N_block_ret ?_
                refine N_then_ret ?_
                refine N_round_ret ?_
                refine N_then_ret ?_
                exact N_ret1 rfl (rv_tmp rfl) (fun w hh => ⟨(), rfl, hh.sel [] rfl⟩)
              · refine JD_take (i := 33) hp62 rfl (by kernel_rfl) (by kernel_rfl) (by kernel_rfl) (wants_some rfl rfl rfl h82) rfl (ex_move rfl) ?_
                refine JD_take (i := 34) hp62 rfl (by kernel_rfl) (by kernel_rfl) (by kernel_rfl) (wants_some rfl rfl rfl h82) rfl (ex_nilCheck_pt 5 rfl rfl) ?_
                refine JD_sq (i := 35) (fs := fun q83 => [.pt q83 y28.Move]) [] h1_79 rfl rfl (by kernel_rfl) (by kernel_rfl) (by kernel_rfl) (wants_some rfl rfl rfl h82) rfl (sq_field_pt 9 (GMultiRule.at_Move _) fi_69_3 rfl rfl rfl) (fun _ => rfl) (fun q83 h1_84 => ?_)
                refine JD_sq (i := 36) [] h1_84 rfl rfl (by kernel_rfl) (by kernel_rfl) (by kernel_rfl) (wants_some rfl rfl rfl h82) rfl (sq_load_pt_o 0 (opens_sl _) ti_64 rfl rfl) (fun _ => rfl) (fun v85 h1_86 => ?_)
                refine JD_take (i := 37) hp62 rfl (by kernel_rfl) (by kernel_rfl) (by kernel_rfl) (wants_some rfl rfl rfl h82) rfl (ex_move rfl) ?_
                refine JD_take (i := 38) hp62 rfl (by kernel_rfl) (by kernel_rfl) (by kernel_rfl) (wants_some rfl rfl rfl h82) rfl (ex_nilCheck_pa 4 rfl rfl) ?_
                refine JD_sq (i := 39) (fs := fun q87 => [.pa q87 p0.Tapes]) [] h1_86 rfl rfl (by kernel_rfl) (by kernel_rfl) (by kernel_rfl) (wants_some rfl rfl rfl h82) rfl (sq_field_pa 10 (GMulti.at_Tapes _) fi_33_0 rfl rfl rfl) (fun _ => rfl) (fun q87 h1_88 => ?_)
                refine JD_sq (i := 40) [] h1_88 rfl rfl (by kernel_rfl) (by kernel_rfl) (by kernel_rfl) (wants_some rfl rfl rfl h82) rfl (sq_load_pa_o 0 (opens_int _) ti_2 rfl rfl) (fun _ => rfl) (fun _ h1_90 => ?_)
                refine JD_bnd fun r91 hr92 => ?_
                refine JD_one (i := 41) (by kernel_rfl) ?_
                refine JO_call rfl (wants_some rfl rfl rfl h82) rfl Try.call27 rfl (Ca_of0 fun w hh => c_spec_l06Row _ w (fun _ hk => hk.elim) _ _ (hh.rd0 1 rfl) _ _ _ _ hr92) (fun _ => ?_)
                refine JD_take (i := 42) hp62 rfl (by kernel_rfl) (by kernel_rfl) (by kernel_rfl) (wants_some rfl rfl rfl h82) rfl (ex_not rfl) ?_
                refine JD_take (i := 43) hp62 rfl (by kernel_rfl) (by kernel_rfl) (by kernel_rfl) (wants_none rfl) rfl (ex_pick_false rfl h82 rfl) ?_
                refine JD_done (by kernel_rfl) ?_
                refine N_then ?_
                refine J_if rfl (fun h93 => ?_) (fun h93 => ?_)
                · refine J_seq ?_
                  refine J_region ?_
                  refine JL_q (wants_none rfl) rfl (ex_assign rfl) ?_
                  refine JL_nil ?_
                  refine N_then ?_
                  refine J_ret ?_
                  refine N_mid_ret ?_
                  refine N_then_ret ?_
                  refine N_block_ret ?_
                  refine N_then_ret ?_
                  refine N_round_ret ?_
                  refine N_then_ret ?_
                  exact N_ret1 rfl (rv_tmp rfl) (fun w hh => ⟨(), rfl, hh.sel [] rfl⟩)
                · refine J_skip ?_
                  exact N_meet' () ⟨rfl, rfl, rfl, trivial⟩ [11, 12] rfl rfl
          · refine N_then ?_
            refine J_seq ?_
            refine J_region ?_
            refine JL_q (wants_none rfl) rfl (ex_move rfl) ?_
            refine JL_q (wants_none rfl) rfl (ex_gtr rfl rfl) ?_
            refine JL_q (wants_none rfl) rfl (ex_move rfl) ?_
            refine JL_cond (fun h94 => ?_) (fun h94 => ?_)
            · refine JL_q (wants_some rfl rfl rfl h94) rfl (ex_move rfl) ?_
              refine JL_q (wants_some rfl rfl rfl h94) rfl (ex_nilCheck_pa 0 rfl rfl) ?_
              refine JL_st (wants_some rfl rfl rfl h94) rfl (st_field_pa 0 (GMulti.at_Rules _) fi_33_3 rfl rfl rfl) (fun q95 => ?_)
              refine JL_st (wants_some rfl rfl rfl h94) rfl (st_load_pa_o 0 (opens_sl _) ti_31 rfl rfl) (fun v96 => ?_)
              refine JL_q (wants_some rfl rfl rfl h94) rfl (ex_move rfl) ?_
              refine JL_q (wants_some rfl rfl rfl h94) rfl (ex_sub rfl rfl) ?_
              refine JL_bnd fun y97 hy98 => ?_
              refine JL_st (wants_some rfl rfl rfl h94) rfl (st_index 0 Try.underlying31 ti_69 rfl rfl rfl hy98) (fun q99 => ?_)
              refine JL_q (wants_some rfl rfl rfl h94) rfl (ex_move rfl) ?_
              refine JL_bnd fun r100 hr101 => ?_
              refine JL_call (wants_some rfl rfl rfl h94) rfl Try.call28 rfl (Ca_of0 fun w hh => c_spec_l06Before _ w (fun _ hk => hk.elim) _ _ (hh.pt_pa0 0 rfl) _ _ (hh.pt_pa0 4 rfl) _ hr101) (fun _ => ?_)
              refine JL_q (wants_some rfl rfl rfl h94) rfl (ex_not rfl) ?_
              refine JL_q (wants_none rfl) rfl (ex_pick_true rfl h94 rfl) ?_
              refine JL_nil ?_
              refine N_then ?_
              refine J_if rfl (fun h102 => ?_) (fun h102 => ?_)
              · refine J_seq ?_
                refine J_region ?_
                refine JL_q (wants_none rfl) rfl (ex_assign rfl) ?_
                refine JL_nil ?_
                refine N_then ?_
                refine J_ret ?_
                refine N_block_ret ?_
                refine N_then_ret ?_
                refine N_round_ret ?_
                refine N_then_ret ?_
                exact N_ret1 rfl (rv_tmp rfl) (fun w hh => ⟨(), rfl, hh.sel [] rfl⟩)
              · refine J_skip ?_
                refine N_block ?_
                refine N_then ?_
                refine J_region ?_
                refine JL_q (wants_none rfl) rfl (ex_move rfl) ?_
                refine JL_q (wants_none rfl) rfl (ex_add rfl rfl) ?_
                refine JL_q (wants_none rfl) rfl (ex_assign rfl) ?_
                refine JL_nil ?_
                exact N_next' () ⟨rfl, rfl, trivial⟩ [3] rfl rfl
            · refine JL_passed rfl rfl rfl h94 ?_
              refine JL_passed rfl rfl rfl h94 ?_
              refine JL_passed rfl rfl rfl h94 ?_
              refine JL_passed rfl rfl rfl h94 ?_
              refine JL_passed rfl rfl rfl h94 ?_
              refine JL_passed rfl rfl rfl h94 ?_
              refine JL_passed rfl rfl rfl h94 ?_
              refine JL_passed rfl rfl rfl h94 ?_
              refine JL_passed rfl rfl rfl h94 ?_
              refine JL_passed rfl rfl rfl h94 ?_
              refine JL_q (wants_none rfl) rfl (ex_pick_false rfl h94 rfl) ?_
              refine JL_nil ?_
              refine N_then ?_
              refine J_if_false rfl rfl ?_
              refine J_skip ?_
              refine N_block ?_
              refine N_then ?_
              refine J_region ?_
              refine JL_q (wants_none rfl) rfl (ex_move rfl) ?_
              refine JL_q (wants_none rfl) rfl (ex_add rfl rfl) ?_
              refine JL_q (wants_none rfl) rfl (ex_assign rfl) ?_
              refine JL_nil ?_
              exact N_next' () ⟨rfl, rfl, trivial⟩ [0] rfl rfl
      · refine J_exit ?_
        refine N_then_exit ?_
        exact N_break' () ⟨rfl, rfl, trivial⟩ [2] rfl rfl
    · refine N_then ?_
      refine J_seq ?_
      refine J_region ?_
      refine JL_q (wants_none rfl) rfl (ex_assign rfl) ?_
      refine JL_nil ?_
      refine N_then ?_
      refine J_ret ?_
      exact N_ret1 rfl (rv_tmp rfl) (fun w hh => ⟨(), rfl, hh.sel [] rfl⟩)

set_option maxHeartbeats 40000000 in
theorem c_spec_l13Look (A : Nat → Prop) (w : World) (hA : ∀ k, A k → k < w.heap.size) (v0_ : Value) (p0 : GMulti) (hp0 : RdA A w.heap.size w v0_ p0) (p1 : Int) (r : (List Int)) (hr : F_spec_l13Look p0 p1 = some r) :
    Con Try.prog 30 [v0_, .int .i64 p1] A w (fun x_ : Value => x_) (fun x_ => [.ow 2 x_ r]) := by
  refine Con_of (v := fun (r : (List Int)) (x_ : Value) => x_) (fs := fun r x_ => [.ow 2 x_ r]) Try.func30 rfl Try.ntmps30 rfl ((SH.start hA).start_pa' rfl hp0) rfl ?_ hr
  unfold F_spec_l13Look
  refine J_seq ?_
  refine J_region ?_
  refine JL_q (wants_none rfl) rfl (ex_assign rfl) ?_
  refine JL_nil ?_
  refine N_then ?_
  refine J_seq ?_
  refine J_region ?_
  refine JL_q (wants_none rfl) rfl (ex_move rfl) ?_
  refine JL_st (wants_none rfl) rfl (st_buildSlice (vs := [.int .i64 0, .int .i64 p1, .int .i64 0]) ([0, p1, 0] : List Int) Try.underlying64 ti_2 zi_2 rfl rfl rfl (fun w hh => ⟨(Rd.mk_int _ _ _), (Rd.mk_int _ _ _), (Rd.mk_int _ _ _), trivial⟩)) (fun b1 => ?_)
  refine JL_q (wants_none rfl) rfl (ex_assign rfl) ?_
  refine JL_nil ?_
  refine N_then ?_
  refine J_seq ?_
  refine J_seq ?_
  refine J_region ?_
  refine JL_q (wants_none rfl) rfl (ex_assign rfl) ?_
  refine JL_nil ?_
  refine N_then ?_
  refine J_loop' (S := (List Int) × Int) (G := Value) (F_spec_l13Look_L1 p0) (fun s2 g3 => [(0, v0_), (5, g3), (6, .int .i64 s2.2)]) (fun s2 g3 => [.pa v0_ p0, .ow 2 g3 s2.1]) (([0, p1, 0] : List Int), 0) (.slice (some ⟨b1, 0, none⟩) 3 3) ⟨rfl, rfl, rfl, trivial⟩ [1, 0] rfl rfl (fun s2 g3 => ?_) (fun s2 g3 => ?_)
  · unfold F_spec_l13Look_L1
    refine J_seq ?_
    refine J_seq ?_
    refine J_region ?_
    refine JL_q (wants_none rfl) rfl (ex_move rfl) ?_
    refine JL_q (wants_none rfl) rfl (ex_move rfl) ?_
    refine JL_q (wants_none rfl) rfl (ex_nilCheck_pa 0 rfl rfl) ?_
    refine JL_st (wants_none rfl) rfl (st_field_pa 0 (GMulti.at_Tapes _) fi_33_0 rfl rfl rfl) (fun q4 => ?_)
    refine JL_st (wants_none rfl) rfl (st_load_pa_o 0 (opens_int _) ti_2 rfl rfl) (fun _ => ?_)
    refine JL_q (wants_none rfl) rfl (ex_lss rfl rfl) ?_
    refine JL_nil ?_
    refine N_then ?_
    refine J_if rfl (fun h6 => ?_) (fun h6 => ?_)
    · refine J_skip ?_
      refine N_then ?_
      refine J_seq ?_
      refine J_block ?_
      refine J_region ?_
      refine JL_q (wants_none rfl) rfl (ex_move rfl) ?_
      refine JL_st (wants_none rfl) rfl (st_buildSlice (vs := [.int .i64 (-1)]) ([(-1)] : List Int) Try.underlying64 ti_2 zi_2 rfl rfl rfl (fun w hh => ⟨(Rd.mk_int _ _ _), trivial⟩)) (fun b7 => ?_)
      refine JL_bnd fun z8 hz9 => ?_
      refine JL_st (wants_none rfl) rfl (st_append 3 Try.underlying64 ti_2 zi_2 rfl bi_2 rfl rfl rfl rfl (fun w hh => hh.src_ow 0 rfl) hz9) (fun v10 => ?_)
      refine JL_q (wants_none rfl) rfl (ex_assign rfl) ?_
      refine JL_nil ?_
      refine N_block ?_
      refine N_then ?_
      refine J_region ?_
      refine JL_q (wants_none rfl) rfl (ex_move rfl) ?_
      refine JL_q (wants_none rfl) rfl (ex_add rfl rfl) ?_
      refine JL_q (wants_none rfl) rfl (ex_assign rfl) ?_
      refine JL_nil ?_
      exact N_next' v10 ⟨rfl, rfl, rfl, trivial⟩ [2, 3] rfl rfl
    · refine J_exit ?_
      refine N_then_exit ?_
      exact N_break' g3 ⟨rfl, rfl, rfl, trivial⟩ [1, 2] rfl rfl
  · refine N_then ?_
    refine J_seq ?_
    refine J_region ?_
    refine JL_q (wants_none rfl) rfl (ex_move rfl) ?_
    refine JL_q (wants_none rfl) rfl (ex_assign rfl) ?_
    refine JL_nil ?_
    refine N_then ?_
    refine J_ret ?_
    exact N_ret1 rfl (rv_tmp rfl) (fun w hh => ⟨g3, rfl, hh.sel [1] rfl⟩)

set_option maxHeartbeats 40000000 in
theorem c_spec_l13Go (A : Nat → Prop) (w : World) (hA : ∀ k, A k → k < w.heap.size) (p0 : Int) (p1 : Int) (v2_ : Value) (p2 : (List Int)) (hp2 : Rd A w v2_ p2) (r : Gl13Move) (hr : F_spec_l13Go p0 p1 p2 = some r) :
    Con Try.prog 65 [.int .i64 p0, .int .i64 p1, v2_] A w (fun x_ : Value => .agg #[.bool r.ok, .int .i64 r.write, .int .i64 r.move, x_]) (fun x_ => [.pr (Sub v2_ p2 x_ r.next)]) := by
  refine Con_of (v := fun (r : Gl13Move) (x_ : Value) => .agg #[.bool r.ok, .int .i64 r.write, .int .i64 r.move, x_]) (fs := fun r x_ => [.pr (Sub v2_ p2 x_ r.next)]) Try.func65 rfl Try.ntmps65 rfl ((SH.start hA).start_rd rfl hp2) rfl ?_ hr
  unfold F_spec_l13Go
  refine J_seq ?_
  refine J_region ?_
  refine JL_st (wants_none rfl) rfl (st_alloc zi_96 rfl) (fun b1 => ?_)
  refine JL_nil ?_
  refine N_then ?_
  refine J_seq ?_
  refine J_region ?_
  refine JL_q (wants_none rfl) rfl (ex_move rfl) ?_
  refine JL_q (wants_none rfl) rfl (ex_move rfl) ?_
  refine JL_q (wants_none rfl) rfl (ex_move rfl) ?_
  refine JL_q (wants_none rfl) rfl (ex_build si_96 rfl (.cons fi_96_0 rfl rfl (.cons fi_96_1 rfl rfl (.cons fi_96_2 rfl rfl (.cons fi_96_3 rfl rfl .nil)))) (fun w hh => ⟨cv_bool, cv_int, cv_int, (hh.cv 1 rfl), trivial⟩)) ?_
  refine JL_sk (wants_none rfl) (sk_store_bx' 0 ti_96 rfl rfl (fun w hh => (cv_aggs ⟨cv_bool, cv_int, cv_int, (hh.cv 1 rfl), trivial⟩)) rfl rfl rfl rfl) ?_
  refine JL_nil ?_
  refine N_then ?_
  refine J_ret ?_
  refine N_ctx (fun w hh => hh.cons_pr (p := Sub v2_ p2 v2_ p2) Sub.refl) ?_
  exact N_ret1 rfl (rv_cell 1 rfl rfl ti_96 rfl) (fun w hh => ⟨v2_, rfl, hh.sel [0] rfl⟩)

set_option maxHeartbeats 40000000 in
theorem c_spec_l05None (A : Nat → Prop) (w : World) (hA : ∀ k, A k → k < w.heap.size)  (r : GRule) (hr : F_spec_l05None  = some r) :
    Con Try.prog 45 [] A w (fun x_ : Unit => .agg #[.int .i64 r.Write, .int .i64 r.Move, .int .i64 r.Next]) (fun x_ => []) := by
  refine Con_of (v := fun (r : GRule) (x_ : Unit) => .agg #[.int .i64 r.Write, .int .i64 r.Move, .int .i64 r.Next]) (fs := fun r x_ => []) Try.func45 rfl Try.ntmps45 rfl (SH.start hA) rfl ?_ hr
  unfold F_spec_l05None
  refine J_seq ?_
  refine J_region ?_
  refine JL_st (wants_none rfl) rfl (st_alloc zi_91 rfl) (fun b1 => ?_)
  refine JL_nil ?_
  refine N_then ?_
  refine J_seq ?_
  refine J_region ?_
  refine JL_q (wants_none rfl) rfl (ex_build si_91 rfl (.cons fi_91_2 rfl rfl .nil) (fun w hh => ⟨cv_int, trivial⟩)) ?_
  refine JL_sk (wants_none rfl) (sk_store_bx' 0 ti_91 rfl rfl (fun w hh => (cv_aggs ⟨cv_int, cv_int, cv_int, trivial⟩)) rfl rfl rfl rfl) ?_
  refine JL_nil ?_
  refine N_then ?_
  refine J_ret ?_
  exact N_ret1 rfl (rv_cell 0 rfl rfl ti_91 rfl) (fun w hh => ⟨(), rfl, hh.sel [] rfl⟩)

end Go.Proofs.Ytafjflnnkdbmdaa
