/-
  Each function of the program computes what its plain function says: printed by program. No condition.
-/
import Derived.Test.YtbhehmmlkiljeaaFn
import Derived.Test.YtbhehmmlkiljeaaInf
namespace Go.Proofs.Ytbhehmmlkiljeaa
open Go Go.Tc Go.Fn
set_option linter.unusedVariables false

set_option maxHeartbeats 40000000 in
theorem c_laws_szRuleS (A : Nat → Prop) (w : World) (hA : ∀ k, A k → k < w.heap.size) (v0_ : Value) (p0 : (List GRule)) (hp0 : Rd A w v0_ p0) (p1 : Int) (r : Int) (hr : F_laws_szRuleS p0 p1 = some r) :
    Con Try.prog 17 [v0_, .int .i64 p1] A w (fun x_ : Unit => .int .i64 r) (fun x_ => []) := by
  refine Con_of (v := fun (r : Int) (x_ : Unit) => .int .i64 r) (fs := fun r x_ => []) Try.func17 rfl Try.ntmps17 rfl ((SH.start hA).start_rd rfl hp0) rfl ?_ hr
  unfold F_laws_szRuleS
  refine J_seq ?_
  refine J_region ?_
  refine JL_q (wants_none rfl) rfl (ex_assign rfl) ?_
  refine JL_nil ?_
  refine N_then ?_
  refine J_seq ?_
  refine J_region ?_
  refine JL_q (wants_none rfl) rfl (ex_move rfl) ?_
  refine JL_q (wants_none rfl) rfl (ex_move rfl) ?_
  refine JL_q (wants_none rfl) rfl (ex_len_rd 0 Try.underlying22 rfl rfl) ?_
  refine JL_q (wants_none rfl) rfl (ex_sub rfl rfl) ?_
  refine JL_q (wants_none rfl) rfl (ex_assign rfl) ?_
  refine JL_nil ?_
  refine N_then ?_
  refine J_seq ?_
  refine J_seq ?_
  refine J_region ?_
  refine JL_q (wants_none rfl) rfl (ex_move rfl) ?_
  refine JL_q (wants_none rfl) rfl (ex_lss rfl rfl) ?_
  refine JL_nil ?_
  refine N_then ?_
  refine J_if rfl (fun h1 => ?_) (fun h1 => ?_)
  · refine J_seq ?_
    refine J_region ?_
    refine JL_q (wants_none rfl) rfl (ex_assign rfl) ?_
    refine JL_nil ?_
    refine N_then ?_
    refine J_ret ?_
    refine N_then_ret ?_
    exact N_ret1 rfl (rv_tmp rfl) (fun w hh => ⟨(), rfl, hh.sel [] rfl⟩)
  · refine J_skip ?_
    refine N_then ?_
    refine J_seq ?_
    refine J_region ?_
    refine JL_q (wants_none rfl) rfl (ex_move rfl) ?_
    refine JL_q (wants_none rfl) rfl (ex_assign rfl) ?_
    refine JL_nil ?_
    refine N_then ?_
    refine J_ret ?_
    exact N_ret1 rfl (rv_tmp rfl) (fun w hh => ⟨(), rfl, hh.sel [] rfl⟩)

set_option maxHeartbeats 40000000 in
theorem c_laws_szMachine (A : Nat → Prop) (w : World) (hA : ∀ k, A k → k < w.heap.size) (v0_ : Value) (p0 : GMachine) (hp0 : Rd A w v0_ p0) (p1 : Int) (r : Int) (hr : F_laws_szMachine p0 p1 = some r) :
    Con Try.prog 4 [v0_, .int .i64 p1] A w (fun x_ : Unit => .int .i64 r) (fun x_ => []) := by
  obtain ⟨v0_0, rfl, hp0_0⟩ := GMachine.open hp0
  refine Con_of (v := fun (r : Int) (x_ : Unit) => .int .i64 r) (fs := fun r x_ => []) Try.func4 rfl Try.ntmps4 rfl ((SH.start hA).start_rd rfl hp0_0) rfl ?_ hr
  unfold F_laws_szMachine
  refine J_seq ?_
  refine J_region ?_
  refine JL_st (wants_none rfl) rfl (st_box' rfl (fun w hh => (cv_aggs ⟨cv_int, cv_int, (hh.cv 0 rfl), trivial⟩))) (fun b1 => ?_)
  refine JL_q (wants_none rfl) rfl (ex_assign rfl) ?_
  refine JL_nil ?_
  refine N_then ?_
  refine J_seq ?_
  refine J_region ?_
  refine JL_q (wants_none rfl) rfl (ex_fieldAddr fi_24_2 rfl rfl) ?_
  refine JL_q (wants_none rfl) rfl (ex_load_bx 0 ti_22 rfl rfl rfl) ?_
  refine JL_q (wants_none rfl) rfl (ex_move rfl) ?_
  refine JL_bnd fun r2 hr3 => ?_
  refine JL_call (wants_none rfl) rfl Try.call17 rfl (Ca_of0 fun w hh => c_laws_szRuleS _ w (fun _ hk => hk.elim) _ _ (hh.rd0 1 rfl) _ _ hr3) (fun _ => ?_)
  refine JL_q (wants_none rfl) rfl (ex_assign rfl) ?_
  refine JL_nil ?_
  refine N_then ?_
  refine J_seq ?_
  refine J_seq ?_
  refine J_region ?_
  refine JL_q (wants_none rfl) rfl (ex_move rfl) ?_
  refine JL_q (wants_none rfl) rfl (ex_lss rfl rfl) ?_
  refine JL_nil ?_
  refine N_then ?_
  refine J_if rfl (fun h4 => ?_) (fun h4 => ?_)
  · refine J_seq ?_
    refine J_region ?_
    refine JL_q (wants_none rfl) rfl (ex_assign rfl) ?_
    refine JL_nil ?_
    refine N_then ?_
    refine J_ret ?_
    refine N_then_ret ?_
    exact N_ret1 rfl (rv_tmp rfl) (fun w hh => ⟨(), rfl, hh.sel [] rfl⟩)
  · refine J_skip ?_
    refine N_then ?_
    refine J_seq ?_
    refine J_region ?_
    refine JL_q (wants_none rfl) rfl (ex_move rfl) ?_
    refine JL_q (wants_none rfl) rfl (ex_assign rfl) ?_
    refine JL_nil ?_
    refine N_then ?_
    refine J_ret ?_
    exact N_ret1 rfl (rv_tmp rfl) (fun w hh => ⟨(), rfl, hh.sel [] rfl⟩)

set_option maxHeartbeats 40000000 in
theorem c_laws_szInt64S (A : Nat → Prop) (w : World) (hA : ∀ k, A k → k < w.heap.size) (v0_ : Value) (p0 : (List Int)) (hp0 : Rd A w v0_ p0) (p1 : Int) (r : Int) (hr : F_laws_szInt64S p0 p1 = some r) :
    Con Try.prog 18 [v0_, .int .i64 p1] A w (fun x_ : Unit => .int .i64 r) (fun x_ => []) := by
  refine Con_of (v := fun (r : Int) (x_ : Unit) => .int .i64 r) (fs := fun r x_ => []) Try.func18 rfl Try.ntmps18 rfl ((SH.start hA).start_rd rfl hp0) rfl ?_ hr
  unfold F_laws_szInt64S
  refine J_seq ?_
  refine J_region ?_
  refine JL_q (wants_none rfl) rfl (ex_assign rfl) ?_
  refine JL_nil ?_
  refine N_then ?_
  refine J_seq ?_
  refine J_region ?_
  refine JL_q (wants_none rfl) rfl (ex_move rfl) ?_
  refine JL_q (wants_none rfl) rfl (ex_move rfl) ?_
  refine JL_q (wants_none rfl) rfl (ex_len_rd 0 Try.underlying25 rfl rfl) ?_
  refine JL_q (wants_none rfl) rfl (ex_sub rfl rfl) ?_
  refine JL_q (wants_none rfl) rfl (ex_assign rfl) ?_
  refine JL_nil ?_
  refine N_then ?_
  refine J_seq ?_
  refine J_seq ?_
  refine J_region ?_
  refine JL_q (wants_none rfl) rfl (ex_move rfl) ?_
  refine JL_q (wants_none rfl) rfl (ex_lss rfl rfl) ?_
  refine JL_nil ?_
  refine N_then ?_
  refine J_if rfl (fun h1 => ?_) (fun h1 => ?_)
  · refine J_seq ?_
    refine J_region ?_
    refine JL_q (wants_none rfl) rfl (ex_assign rfl) ?_
    refine JL_nil ?_
    refine N_then ?_
    refine J_ret ?_
    refine N_then_ret ?_
    exact N_ret1 rfl (rv_tmp rfl) (fun w hh => ⟨(), rfl, hh.sel [] rfl⟩)
  · refine J_skip ?_
    refine N_then ?_
    refine J_seq ?_
    refine J_region ?_
    refine JL_q (wants_none rfl) rfl (ex_move rfl) ?_
    refine JL_q (wants_none rfl) rfl (ex_assign rfl) ?_
    refine JL_nil ?_
    refine N_then ?_
    refine J_ret ?_
    exact N_ret1 rfl (rv_tmp rfl) (fun w hh => ⟨(), rfl, hh.sel [] rfl⟩)

set_option maxHeartbeats 40000000 in
theorem c_laws_szConfig (A : Nat → Prop) (w : World) (hA : ∀ k, A k → k < w.heap.size) (v0_ : Value) (p0 : GConfig) (hp0 : Rd A w v0_ p0) (p1 : Int) (r : Int) (hr : F_laws_szConfig p0 p1 = some r) :
    Con Try.prog 5 [v0_, .int .i64 p1] A w (fun x_ : Unit => .int .i64 r) (fun x_ => []) := by
  obtain ⟨v0_0, v0_1, rfl, hp0_0, hp0_1⟩ := GConfig.open hp0
  refine Con_of (v := fun (r : Int) (x_ : Unit) => .int .i64 r) (fs := fun r x_ => []) Try.func5 rfl Try.ntmps5 rfl (((SH.start hA).start_rd rfl hp0_0).start_rd rfl hp0_1) rfl ?_ hr
  unfold F_laws_szConfig
  refine J_seq ?_
  refine J_region ?_
  refine JL_st (wants_none rfl) rfl (st_box' rfl (fun w hh => (cv_aggs ⟨cv_int, (hh.cv 1 rfl), (hh.cv 0 rfl), trivial⟩))) (fun b1 => ?_)
  refine JL_q (wants_none rfl) rfl (ex_assign rfl) ?_
  refine JL_nil ?_
  refine N_then ?_
  refine J_seq ?_
  refine J_region ?_
  refine JL_q (wants_none rfl) rfl (ex_fieldAddr fi_27_1 rfl rfl) ?_
  refine JL_q (wants_none rfl) rfl (ex_load_bx 0 ti_25 rfl rfl rfl) ?_
  refine JL_q (wants_none rfl) rfl (ex_move rfl) ?_
  refine JL_bnd fun r2 hr3 => ?_
  refine JL_call (wants_none rfl) rfl Try.call18 rfl (Ca_of0 fun w hh => c_laws_szInt64S _ w (fun _ hk => hk.elim) _ _ (hh.rd0 2 rfl) _ _ hr3) (fun _ => ?_)
  refine JL_q (wants_none rfl) rfl (ex_assign rfl) ?_
  refine JL_nil ?_
  refine N_then ?_
  refine J_seq ?_
  refine J_seq ?_
  refine J_region ?_
  refine JL_q (wants_none rfl) rfl (ex_move rfl) ?_
  refine JL_q (wants_none rfl) rfl (ex_lss rfl rfl) ?_
  refine JL_nil ?_
  refine N_then ?_
  refine J_if rfl (fun h4 => ?_) (fun h4 => ?_)
  · refine J_seq ?_
    refine J_region ?_
    refine JL_q (wants_none rfl) rfl (ex_assign rfl) ?_
    refine JL_nil ?_
    refine N_then ?_
    refine J_ret ?_
    refine N_then_ret ?_
    exact N_ret1 rfl (rv_tmp rfl) (fun w hh => ⟨(), rfl, hh.sel [] rfl⟩)
  · refine J_skip ?_
    refine N_then ?_
    refine J_seq ?_
    refine J_region ?_
    refine JL_q (wants_none rfl) rfl (ex_fieldAddr fi_27_2 rfl rfl) ?_
    refine JL_q (wants_none rfl) rfl (ex_load_bx 0 ti_25 rfl rfl rfl) ?_
    refine JL_q (wants_none rfl) rfl (ex_move rfl) ?_
    refine JL_bnd fun r5 hr6 => ?_
    refine JL_call (wants_none rfl) rfl Try.call18 rfl (Ca_of0 fun w hh => c_laws_szInt64S _ w (fun _ hk => hk.elim) _ _ (hh.rd0 1 rfl) _ _ hr6) (fun _ => ?_)
    refine JL_q (wants_none rfl) rfl (ex_assign rfl) ?_
    refine JL_nil ?_
    refine N_then ?_
    refine J_seq ?_
    refine J_seq ?_
    refine J_region ?_
    refine JL_q (wants_none rfl) rfl (ex_move rfl) ?_
    refine JL_q (wants_none rfl) rfl (ex_lss rfl rfl) ?_
    refine JL_nil ?_
    refine N_then ?_
    refine J_if rfl (fun h7 => ?_) (fun h7 => ?_)
    · refine J_seq ?_
      refine J_region ?_
      refine JL_q (wants_none rfl) rfl (ex_assign rfl) ?_
      refine JL_nil ?_
      refine N_then ?_
      refine J_ret ?_
      refine N_then_ret ?_
      exact N_ret1 rfl (rv_tmp rfl) (fun w hh => ⟨(), rfl, hh.sel [] rfl⟩)
    · refine J_skip ?_
      refine N_then ?_
      refine J_seq ?_
      refine J_region ?_
      refine JL_q (wants_none rfl) rfl (ex_move rfl) ?_
      refine JL_q (wants_none rfl) rfl (ex_assign rfl) ?_
      refine JL_nil ?_
      refine N_then ?_
      refine J_ret ?_
      exact N_ret1 rfl (rv_tmp rfl) (fun w hh => ⟨(), rfl, hh.sel [] rfl⟩)

set_option maxHeartbeats 40000000 in
theorem c_laws_toRule (A : Nat → Prop) (w : World) (hA : ∀ k, A k → k < w.heap.size) (v0_ : Value) (p0 : GRule) (hp0 : Rd A w v0_ p0) (r : GRule) (hr : F_laws_toRule p0 = some r) :
    Con Try.prog 54 [v0_] A w (fun x_ : Unit => .agg #[.int .i64 r.Write, .int .i64 r.Move, .int .i64 r.Next]) (fun x_ => []) := by
  obtain rfl := GRule.open hp0
  refine Con_of (v := fun (r : GRule) (x_ : Unit) => .agg #[.int .i64 r.Write, .int .i64 r.Move, .int .i64 r.Next]) (fs := fun r x_ => []) Try.func54 rfl Try.ntmps54 rfl (SH.start hA) rfl ?_ hr
  unfold F_laws_toRule
  refine J_seq ?_
  refine J_region ?_
  refine JL_st (wants_none rfl) rfl (st_box' rfl (fun w hh => (cv_aggs ⟨cv_int, cv_int, cv_int, trivial⟩))) (fun b1 => ?_)
  refine JL_st (wants_none rfl) rfl (st_alloc zi_60 rfl) (fun b2 => ?_)
  refine JL_nil ?_
  refine N_then ?_
  refine J_seq ?_
  refine J_region ?_
  refine JL_st (wants_none rfl) rfl (st_alloc zi_60 rfl) (fun b3 => ?_)
  refine JL_nil ?_
  refine N_then ?_
  refine J_seq ?_
  refine J_region ?_
  refine JL_q (wants_none rfl) rfl (ex_fieldAddr fi_92_0 rfl rfl) ?_
  refine JL_q (wants_none rfl) rfl (ex_load_bx 2 ti_2 rfl rfl rfl) ?_
  refine JL_q (wants_none rfl) rfl (ex_fieldAddr fi_60_0 rfl rfl) ?_
  refine JL_sk (wants_none rfl) (sk_store_bx' 0 ti_2 rfl rfl (fun w hh => cv_int) rfl rfl rfl rfl) ?_
  refine JL_nil ?_
  refine N_then ?_
  refine J_seq ?_
  refine J_region ?_
  refine JL_q (wants_none rfl) rfl (ex_fieldAddr fi_92_1 rfl rfl) ?_
  refine JL_q (wants_none rfl) rfl (ex_load_bx 2 ti_2 rfl rfl rfl) ?_
  refine JL_q (wants_none rfl) rfl (ex_fieldAddr fi_60_1 rfl rfl) ?_
  refine JL_sk (wants_none rfl) (sk_store_bx' 0 ti_2 rfl rfl (fun w hh => cv_int) rfl rfl rfl rfl) ?_
  refine JL_nil ?_
  refine N_then ?_
  refine J_seq ?_
  refine J_region ?_
  refine JL_q (wants_none rfl) rfl (ex_fieldAddr fi_92_2 rfl rfl) ?_
  refine JL_q (wants_none rfl) rfl (ex_load_bx 2 ti_2 rfl rfl rfl) ?_
  refine JL_q (wants_none rfl) rfl (ex_fieldAddr fi_60_2 rfl rfl) ?_
  refine JL_sk (wants_none rfl) (sk_store_bx' 0 ti_2 rfl rfl (fun w hh => cv_int) rfl rfl rfl rfl) ?_
  refine JL_nil ?_
  refine N_then ?_
  refine J_seq ?_
  refine J_region ?_
  refine JL_q (wants_none rfl) rfl (ex_load_bx_agg 0 ti_60 rfl rfl rfl rfl) ?_
  refine JL_sk (wants_none rfl) (sk_store_bx' 1 ti_60 rfl rfl (fun w hh => (cv_aggs ⟨cv_int, cv_int, cv_int, trivial⟩)) rfl rfl rfl rfl) ?_
  refine JL_nil ?_
  refine N_then ?_
  refine J_ret ?_
  exact N_ret1 rfl (rv_cell 1 rfl rfl ti_60 rfl) (fun w hh => ⟨(), rfl, hh.sel [] rfl⟩)

set_option maxHeartbeats 40000000 in
theorem c_laws_toRuleS (A : Nat → Prop) (w : World) (hA : ∀ k, A k → k < w.heap.size) (v0_ : Value) (p0 : (List GRule)) (hp0 : Rd A w v0_ p0) (r : (List GRule)) (hr : F_laws_toRuleS p0 = some r) :
    Con Try.prog 30 [v0_] A w (fun x_ : Value => x_) (fun x_ => [.ow 60 x_ r]) := by
  refine Con_of (v := fun (r : (List GRule)) (x_ : Value) => x_) (fs := fun r x_ => [.ow 60 x_ r]) Try.func30 rfl Try.ntmps30 rfl ((SH.start hA).start_rd rfl hp0) rfl ?_ hr
  unfold F_laws_toRuleS
  refine J_seq ?_
  refine J_region ?_
  refine JL_q (wants_none rfl) rfl (ex_assign rfl) ?_
  refine JL_nil ?_
  refine N_then ?_
  refine J_seq ?_
  refine J_region ?_
  refine JL_q (wants_none rfl) rfl (ex_move rfl) ?_
  refine JL_q (wants_none rfl) rfl (ex_len_rd 0 Try.underlying22 rfl rfl) ?_
  refine JL_bnd fun z1 hz2 => ?_
  refine JL_st (wants_none rfl) rfl (st_make (α := GRule) Try.underlying33 ti_60 zi_60 bi_60 rfl (fun _ _ => GRule.zero) rfl hz2) (fun b3 => ?_)
  refine JL_q (wants_none rfl) rfl (ex_assign rfl) ?_
  refine JL_nil ?_
  refine N_then ?_
  refine J_seq ?_
  refine J_seq ?_
  refine J_region ?_
  refine JL_q (wants_none rfl) rfl (ex_assign rfl) ?_
  refine JL_nil ?_
  refine N_then ?_
  refine J_loop' (S := (List GRule) × Int) (G := Unit) (F_laws_toRuleS_L1 p0) (fun s4 _ => [(0, v0_), (3, (.slice (some ⟨b3, 0, none⟩) z1.length z1.length)), (4, .int .i64 s4.2)]) (fun s4 _ => [.rd v0_ p0, .ow 60 (.slice (some ⟨b3, 0, none⟩) z1.length z1.length) s4.1]) (z1, 0) () ⟨rfl, rfl, rfl, trivial⟩ [1, 0] rfl rfl (fun s4 g5 => ?_) (fun s4 g5 => ?_)
  · unfold F_laws_toRuleS_L1
    refine J_seq ?_
    refine J_seq ?_
    refine J_region ?_
    refine JL_q (wants_none rfl) rfl (ex_move rfl) ?_
    refine JL_q (wants_none rfl) rfl (ex_move rfl) ?_
    refine JL_q (wants_none rfl) rfl (ex_len_rd 0 Try.underlying22 rfl rfl) ?_
    refine JL_q (wants_none rfl) rfl (ex_lss rfl rfl) ?_
    refine JL_nil ?_
    refine N_then ?_
    refine J_if rfl (fun h6 => ?_) (fun h6 => ?_)
    · refine J_skip ?_
      refine N_then ?_
      refine J_seq ?_
      refine J_block ?_
      refine J_region ?_
      refine JL_q (wants_none rfl) rfl (ex_move rfl) ?_
      refine JL_q (wants_none rfl) rfl (ex_move rfl) ?_
      refine JL_q (wants_none rfl) rfl (ex_move rfl) ?_
      refine JL_q (wants_none rfl) rfl (ex_move rfl) ?_
      refine JL_bnd fun y7 hy8 => ?_
      refine JL_st (wants_none rfl) rfl (st_index 0 Try.underlying22 ti_92 rfl rfl rfl hy8) (fun q9 => ?_)
      refine JL_st (wants_none rfl) rfl (st_load_pt_o 0 (GRule.opens _) ti_92 rfl rfl) (fun _ => ?_)
      refine JL_bnd fun r11 hr12 => ?_
      refine JL_call (wants_none rfl) rfl Try.call54 rfl (Ca_of0 fun w hh => c_laws_toRule _ w (fun _ hk => hk.elim) _ _ (GRule.rdmk (Rd.mk_int _ _ _) (Rd.mk_int _ _ _) (Rd.mk_int _ _ _)) _ hr12) (fun _ => ?_)
      refine JL_bnd fun y13 hy14 => ?_
      refine JL_q (wants_none rfl) rfl (ex_index_ow 2 Try.underlying33 ti_60 rfl rfl rfl hy14) ?_
      refine JL_sk (wants_none rfl) (sk_store_ow 2 ti_60 rfl rfl rfl hy14 (fun w hh => (GRule.rdmk (Rd.mk_int _ _ _) (Rd.mk_int _ _ _) (Rd.mk_int _ _ _)))) ?_
      refine JL_nil ?_
      refine N_block ?_
      refine N_then ?_
      refine J_region ?_
      refine JL_q (wants_none rfl) rfl (ex_move rfl) ?_
      refine JL_q (wants_none rfl) rfl (ex_add rfl rfl) ?_
      refine JL_q (wants_none rfl) rfl (ex_assign rfl) ?_
      refine JL_nil ?_
      exact N_next' () ⟨rfl, rfl, rfl, trivial⟩ [1, 2] rfl rfl
    · refine J_exit ?_
      refine N_then_exit ?_
      exact N_break' () ⟨rfl, rfl, rfl, trivial⟩ [0, 1] rfl rfl
  · refine N_then ?_
    refine J_seq ?_
    refine J_region ?_
    refine JL_q (wants_none rfl) rfl (ex_move rfl) ?_
    refine JL_q (wants_none rfl) rfl (ex_assign rfl) ?_
    refine JL_nil ?_
    refine N_then ?_
    refine J_ret ?_
    exact N_ret1 rfl (rv_tmp rfl) (fun w hh => ⟨(.slice (some ⟨b3, 0, none⟩) z1.length z1.length), rfl, hh.sel [1] rfl⟩)

set_option maxHeartbeats 40000000 in
theorem c_laws_toMachine (A : Nat → Prop) (w : World) (hA : ∀ k, A k → k < w.heap.size) (v0_ : Value) (p0 : GMachine) (hp0 : Rd A w v0_ p0) (r : GMachine) (hr : F_laws_toMachine p0 = some r) :
    Con Try.prog 7 [v0_] A w (fun x_ : Value => .agg #[.int .i64 r.Symbols, .int .i64 r.States, x_]) (fun x_ => [.ow 60 x_ r.Rules]) := by
  obtain ⟨v0_0, rfl, hp0_0⟩ := GMachine.open hp0
  refine Con_of (v := fun (r : GMachine) (x_ : Value) => .agg #[.int .i64 r.Symbols, .int .i64 r.States, x_]) (fs := fun r x_ => [.ow 60 x_ r.Rules]) Try.func7 rfl Try.ntmps7 rfl ((SH.start hA).start_rd rfl hp0_0) rfl ?_ hr
  unfold F_laws_toMachine
  refine J_seq ?_
  refine J_region ?_
  refine JL_st (wants_none rfl) rfl (st_box' rfl (fun w hh => (cv_aggs ⟨cv_int, cv_int, (hh.cv 0 rfl), trivial⟩))) (fun b1 => ?_)
  refine JL_st (wants_none rfl) rfl (st_alloc zi_35 rfl) (fun b2 => ?_)
  refine JL_nil ?_
  refine N_then ?_
  refine J_seq ?_
  refine J_region ?_
  refine JL_st (wants_none rfl) rfl (st_alloc zi_35 rfl) (fun b3 => ?_)
  refine JL_nil ?_
  refine N_then ?_
  refine J_seq ?_
  refine J_region ?_
  refine JL_q (wants_none rfl) rfl (ex_fieldAddr fi_24_0 rfl rfl) ?_
  refine JL_q (wants_none rfl) rfl (ex_load_bx 2 ti_2 rfl rfl rfl) ?_
  refine JL_q (wants_none rfl) rfl (ex_fieldAddr fi_35_0 rfl rfl) ?_
  refine JL_sk (wants_none rfl) (sk_store_bx' 0 ti_2 rfl rfl (fun w hh => cv_int) rfl rfl rfl rfl) ?_
  refine JL_nil ?_
  refine N_then ?_
  refine J_seq ?_
  refine J_region ?_
  refine JL_q (wants_none rfl) rfl (ex_fieldAddr fi_24_1 rfl rfl) ?_
  refine JL_q (wants_none rfl) rfl (ex_load_bx 2 ti_2 rfl rfl rfl) ?_
  refine JL_q (wants_none rfl) rfl (ex_fieldAddr fi_35_1 rfl rfl) ?_
  refine JL_sk (wants_none rfl) (sk_store_bx' 0 ti_2 rfl rfl (fun w hh => cv_int) rfl rfl rfl rfl) ?_
  refine JL_nil ?_
  refine N_then ?_
  refine J_seq ?_
  refine J_region ?_
  refine JL_q (wants_none rfl) rfl (ex_fieldAddr fi_24_2 rfl rfl) ?_
  refine JL_q (wants_none rfl) rfl (ex_load_bx 2 ti_22 rfl rfl rfl) ?_
  refine JL_bnd fun r4 hr5 => ?_
  refine JL_call (wants_none rfl) rfl Try.call30 rfl (Ca_self (fun _ => rfl) fun w hh => c_laws_toRuleS _ w (fun _ hk => hk.elim) _ _ (hh.rd0 3 rfl) _ hr5) (fun x6 => ?_)
  refine JL_q (wants_none rfl) rfl (ex_fieldAddr fi_35_2 rfl rfl) ?_
  refine JL_sk (wants_none rfl) (sk_store_bx' 1 ti_33 rfl rfl (fun w hh => (hh.cv_ow 0 rfl)) rfl rfl rfl rfl) ?_
  refine JL_nil ?_
  refine N_then ?_
  refine J_seq ?_
  refine J_region ?_
  refine JL_q (wants_none rfl) rfl (ex_load_bx_agg 1 ti_35 rfl rfl rfl rfl) ?_
  refine JL_sk (wants_none rfl) (sk_store_bx' 2 ti_35 rfl rfl (fun w hh => (cv_aggs ⟨cv_int, cv_int, (hh.cv_ow 0 rfl), trivial⟩)) rfl rfl rfl rfl) ?_
  refine JL_nil ?_
  refine N_then ?_
  refine J_ret ?_
  exact N_ret1 rfl (rv_cell 2 rfl rfl ti_35 rfl) (fun w hh => ⟨x6, rfl, hh.sel [0] rfl⟩)

set_option maxHeartbeats 40000000 in
theorem c_laws_toInt64S (A : Nat → Prop) (w : World) (hA : ∀ k, A k → k < w.heap.size) (v0_ : Value) (p0 : (List Int)) (hp0 : Rd A w v0_ p0) (r : (List Int)) (hr : F_laws_toInt64S p0 = some r) :
    Con Try.prog 31 [v0_] A w (fun x_ : Value => x_) (fun x_ => [.ow 2 x_ r]) := by
  refine Con_of (v := fun (r : (List Int)) (x_ : Value) => x_) (fs := fun r x_ => [.ow 2 x_ r]) Try.func31 rfl Try.ntmps31 rfl ((SH.start hA).start_rd rfl hp0) rfl ?_ hr
  unfold F_laws_toInt64S
  refine J_seq ?_
  refine J_region ?_
  refine JL_q (wants_none rfl) rfl (ex_assign rfl) ?_
  refine JL_nil ?_
  refine N_then ?_
  refine J_seq ?_
  refine J_region ?_
  refine JL_q (wants_none rfl) rfl (ex_move rfl) ?_
  refine JL_q (wants_none rfl) rfl (ex_len_rd 0 Try.underlying25 rfl rfl) ?_
  refine JL_bnd fun z1 hz2 => ?_
  refine JL_st (wants_none rfl) rfl (st_make (α := Int) Try.underlying25 ti_2 zi_2 bi_2 rfl (fun _ _ => zero_int) rfl hz2) (fun b3 => ?_)
  refine JL_q (wants_none rfl) rfl (ex_assign rfl) ?_
  refine JL_nil ?_
  refine N_then ?_
  refine J_seq ?_
  refine J_seq ?_
  refine J_region ?_
  refine JL_q (wants_none rfl) rfl (ex_assign rfl) ?_
  refine JL_nil ?_
  refine N_then ?_
  refine J_loop' (S := (List Int) × Int) (G := Unit) (F_laws_toInt64S_L1 p0) (fun s4 _ => [(0, v0_), (3, (.slice (some ⟨b3, 0, none⟩) z1.length z1.length)), (4, .int .i64 s4.2)]) (fun s4 _ => [.rd v0_ p0, .ow 2 (.slice (some ⟨b3, 0, none⟩) z1.length z1.length) s4.1]) (z1, 0) () ⟨rfl, rfl, rfl, trivial⟩ [1, 0] rfl rfl (fun s4 g5 => ?_) (fun s4 g5 => ?_)
  · unfold F_laws_toInt64S_L1
    refine J_seq ?_
    refine J_seq ?_
    refine J_region ?_
    refine JL_q (wants_none rfl) rfl (ex_move rfl) ?_
    refine JL_q (wants_none rfl) rfl (ex_move rfl) ?_
    refine JL_q (wants_none rfl) rfl (ex_len_rd 0 Try.underlying25 rfl rfl) ?_
    refine JL_q (wants_none rfl) rfl (ex_lss rfl rfl) ?_
    refine JL_nil ?_
    refine N_then ?_
    refine J_if rfl (fun h6 => ?_) (fun h6 => ?_)
    · refine J_skip ?_
      refine N_then ?_
      refine J_seq ?_
      refine J_block ?_
      refine J_region ?_
      refine JL_q (wants_none rfl) rfl (ex_move rfl) ?_
      refine JL_q (wants_none rfl) rfl (ex_move rfl) ?_
      refine JL_q (wants_none rfl) rfl (ex_move rfl) ?_
      refine JL_q (wants_none rfl) rfl (ex_move rfl) ?_
      refine JL_bnd fun y7 hy8 => ?_
      refine JL_st (wants_none rfl) rfl (st_index 0 Try.underlying25 ti_2 rfl rfl rfl hy8) (fun q9 => ?_)
      refine JL_st (wants_none rfl) rfl (st_load_pt_o 0 (opens_int _) ti_2 rfl rfl) (fun _ => ?_)
      refine JL_bnd fun y11 hy12 => ?_
      refine JL_q (wants_none rfl) rfl (ex_index_ow 2 Try.underlying25 ti_2 rfl rfl rfl hy12) ?_
      refine JL_sk (wants_none rfl) (sk_store_ow 2 ti_2 rfl rfl rfl hy12 (fun w hh => (Rd.mk_int _ _ _))) ?_
      refine JL_nil ?_
      refine N_block ?_
      refine N_then ?_
      refine J_region ?_
      refine JL_q (wants_none rfl) rfl (ex_move rfl) ?_
      refine JL_q (wants_none rfl) rfl (ex_add rfl rfl) ?_
      refine JL_q (wants_none rfl) rfl (ex_assign rfl) ?_
      refine JL_nil ?_
      exact N_next' () ⟨rfl, rfl, rfl, trivial⟩ [1, 2] rfl rfl
    · refine J_exit ?_
      refine N_then_exit ?_
      exact N_break' () ⟨rfl, rfl, rfl, trivial⟩ [0, 1] rfl rfl
  · refine N_then ?_
    refine J_seq ?_
    refine J_region ?_
    refine JL_q (wants_none rfl) rfl (ex_move rfl) ?_
    refine JL_q (wants_none rfl) rfl (ex_assign rfl) ?_
    refine JL_nil ?_
    refine N_then ?_
    refine J_ret ?_
    exact N_ret1 rfl (rv_tmp rfl) (fun w hh => ⟨(.slice (some ⟨b3, 0, none⟩) z1.length z1.length), rfl, hh.sel [1] rfl⟩)

set_option maxHeartbeats 40000000 in
theorem c_laws_toConfig (A : Nat → Prop) (w : World) (hA : ∀ k, A k → k < w.heap.size) (v0_ : Value) (p0 : GConfig) (hp0 : Rd A w v0_ p0) (r : GConfig) (hr : F_laws_toConfig p0 = some r) :
    Con Try.prog 8 [v0_] A w (fun x_ : Value × Value => .agg #[.int .i64 r.State, x_.1, x_.2]) (fun x_ => [.ow 2 x_.1 r.Left, .ow 2 x_.2 r.Right]) := by
  obtain ⟨v0_0, v0_1, rfl, hp0_0, hp0_1⟩ := GConfig.open hp0
  refine Con_of (v := fun (r : GConfig) (x_ : Value × Value) => .agg #[.int .i64 r.State, x_.1, x_.2]) (fs := fun r x_ => [.ow 2 x_.1 r.Left, .ow 2 x_.2 r.Right]) Try.func8 rfl Try.ntmps8 rfl (((SH.start hA).start_rd rfl hp0_0).start_rd rfl hp0_1) rfl ?_ hr
  unfold F_laws_toConfig
  refine J_seq ?_
  refine J_region ?_
  refine JL_st (wants_none rfl) rfl (st_box' rfl (fun w hh => (cv_aggs ⟨cv_int, (hh.cv 1 rfl), (hh.cv 0 rfl), trivial⟩))) (fun b1 => ?_)
  refine JL_st (wants_none rfl) rfl (st_alloc zi_37 rfl) (fun b2 => ?_)
  refine JL_nil ?_
  refine N_then ?_
  refine J_seq ?_
  refine J_region ?_
  refine JL_st (wants_none rfl) rfl (st_alloc zi_37 rfl) (fun b3 => ?_)
  refine JL_nil ?_
  refine N_then ?_
  refine J_seq ?_
  refine J_region ?_
  refine JL_q (wants_none rfl) rfl (ex_fieldAddr fi_27_0 rfl rfl) ?_
  refine JL_q (wants_none rfl) rfl (ex_load_bx 2 ti_2 rfl rfl rfl) ?_
  refine JL_q (wants_none rfl) rfl (ex_fieldAddr fi_37_0 rfl rfl) ?_
  refine JL_sk (wants_none rfl) (sk_store_bx' 0 ti_2 rfl rfl (fun w hh => cv_int) rfl rfl rfl rfl) ?_
  refine JL_nil ?_
  refine N_then ?_
  refine J_seq ?_
  refine J_region ?_
  refine JL_q (wants_none rfl) rfl (ex_fieldAddr fi_27_1 rfl rfl) ?_
  refine JL_q (wants_none rfl) rfl (ex_load_bx 2 ti_25 rfl rfl rfl) ?_
  refine JL_bnd fun r4 hr5 => ?_
  refine JL_call (wants_none rfl) rfl Try.call31 rfl (Ca_self (fun _ => rfl) fun w hh => c_laws_toInt64S _ w (fun _ hk => hk.elim) _ _ (hh.rd0 4 rfl) _ hr5) (fun x6 => ?_)
  refine JL_q (wants_none rfl) rfl (ex_fieldAddr fi_37_1 rfl rfl) ?_
  refine JL_sk (wants_none rfl) (sk_store_bx' 1 ti_25 rfl rfl (fun w hh => (hh.cv_ow 0 rfl)) rfl rfl rfl rfl) ?_
  refine JL_nil ?_
  refine N_then ?_
  refine J_seq ?_
  refine J_region ?_
  refine JL_q (wants_none rfl) rfl (ex_fieldAddr fi_27_2 rfl rfl) ?_
  refine JL_q (wants_none rfl) rfl (ex_load_bx 3 ti_25 rfl rfl rfl) ?_
  refine JL_bnd fun r7 hr8 => ?_
  refine JL_call (wants_none rfl) rfl Try.call31 rfl (Ca_self (fun _ => rfl) fun w hh => c_laws_toInt64S _ w (fun _ hk => hk.elim) _ _ (hh.rd0 4 rfl) _ hr8) (fun x9 => ?_)
  refine JL_q (wants_none rfl) rfl (ex_fieldAddr fi_37_2 rfl rfl) ?_
  refine JL_sk (wants_none rfl) (sk_store_bx' 2 ti_25 rfl rfl (fun w hh => (hh.cv_ow 0 rfl)) rfl rfl rfl rfl) ?_
  refine JL_nil ?_
  refine N_then ?_
  refine J_seq ?_
  refine J_region ?_
  refine JL_q (wants_none rfl) rfl (ex_load_bx_agg 2 ti_37 rfl rfl rfl rfl) ?_
  refine JL_sk (wants_none rfl) (sk_store_bx' 3 ti_37 rfl rfl (fun w hh => (cv_aggs ⟨cv_int, (hh.cv_ow 1 rfl), (hh.cv_ow 0 rfl), trivial⟩)) rfl rfl rfl rfl) ?_
  refine JL_nil ?_
  refine N_then ?_
  refine J_ret ?_
  exact N_ret1 rfl (rv_cell 3 rfl rfl ti_37 rfl) (fun w hh => ⟨(x6, x9), rfl, hh.sel [1, 0] rfl⟩)

set_option maxHeartbeats 40000000 in
theorem c_spec_l00In (A : Nat → Prop) (w : World) (hA : ∀ k, A k → k < w.heap.size) (p0 : Int) (p1 : Int) (p2 : Int) (r : Bool) (hr : F_spec_l00In p0 p1 p2 = some r) :
    Con Try.prog 22 [.int .i64 p0, .int .i64 p1, .int .i64 p2] A w (fun x_ : Unit => .bool r) (fun x_ => []) := by
  refine Con_of (v := fun (r : Bool) (x_ : Unit) => .bool r) (fs := fun r x_ => []) Try.func22 rfl Try.ntmps22 rfl (SH.start hA) rfl ?_ hr
  unfold F_spec_l00In
  refine J_seq ?_
  refine J_region ?_
  refine JL_q (wants_none rfl) rfl (ex_assign rfl) ?_
  refine JL_nil ?_
  refine N_then ?_
  refine J_seq ?_
  refine J_region ?_
  refine JL_q (wants_none rfl) rfl (ex_move rfl) ?_
  refine JL_q (wants_none rfl) rfl (ex_move rfl) ?_
  refine JL_q (wants_none rfl) rfl (ex_geq rfl rfl) ?_
  refine JL_q (wants_none rfl) rfl (ex_move rfl) ?_
  refine JL_cond (fun h1 => ?_) (fun h1 => ?_)
  · refine JL_q (wants_some rfl rfl rfl h1) rfl (ex_move rfl) ?_
    refine JL_q (wants_some rfl rfl rfl h1) rfl (ex_move rfl) ?_
    refine JL_q (wants_some rfl rfl rfl h1) rfl (ex_leq rfl rfl) ?_
    refine JL_q (wants_none rfl) rfl (ex_pick_true rfl h1 rfl) ?_
    refine JL_q (wants_none rfl) rfl (ex_assign rfl) ?_
    refine JL_nil ?_
    refine N_then ?_
    refine J_ret ?_
    exact N_ret1 rfl (rv_tmp rfl) (fun w hh => ⟨(), rfl, hh.sel [] rfl⟩)
  · refine JL_passed rfl rfl rfl h1 ?_
    refine JL_passed rfl rfl rfl h1 ?_
    refine JL_passed rfl rfl rfl h1 ?_
    refine JL_q (wants_none rfl) rfl (ex_pick_false rfl h1 rfl) ?_
    refine JL_q (wants_none rfl) rfl (ex_assign rfl) ?_
    refine JL_nil ?_
    refine N_then ?_
    refine J_ret ?_
    exact N_ret1 rfl (rv_tmp rfl) (fun w hh => ⟨(), rfl, hh.sel [] rfl⟩)

set_option maxHeartbeats 40000000 in
theorem c_spec_l05None (A : Nat → Prop) (w : World) (hA : ∀ k, A k → k < w.heap.size)  (r : GRule) (hr : F_spec_l05None  = some r) :
    Con Try.prog 48 [] A w (fun x_ : Unit => .agg #[.int .i64 r.Write, .int .i64 r.Move, .int .i64 r.Next]) (fun x_ => []) := by
  refine Con_of (v := fun (r : GRule) (x_ : Unit) => .agg #[.int .i64 r.Write, .int .i64 r.Move, .int .i64 r.Next]) (fs := fun r x_ => []) Try.func48 rfl Try.ntmps48 rfl (SH.start hA) rfl ?_ hr
  unfold F_spec_l05None
  refine J_seq ?_
  refine J_region ?_
  refine JL_st (wants_none rfl) rfl (st_alloc zi_60 rfl) (fun b1 => ?_)
  refine JL_nil ?_
  refine N_then ?_
  refine J_seq ?_
  refine J_region ?_
  refine JL_q (wants_none rfl) rfl (ex_build si_60 rfl (.cons fi_60_2 rfl rfl .nil) (fun w hh => ⟨cv_int, trivial⟩)) ?_
  refine JL_sk (wants_none rfl) (sk_store_bx' 0 ti_60 rfl rfl (fun w hh => (cv_aggs ⟨cv_int, cv_int, cv_int, trivial⟩)) rfl rfl rfl rfl) ?_
  refine JL_nil ?_
  refine N_then ?_
  refine J_ret ?_
  exact N_ret1 rfl (rv_cell 0 rfl rfl ti_60 rfl) (fun w hh => ⟨(), rfl, hh.sel [] rfl⟩)

set_option maxHeartbeats 40000000 in
theorem c_spec_l05Rule (A : Nat → Prop) (w : World) (hA : ∀ k, A k → k < w.heap.size) (v0_ : Value) (p0 : GRule) (hp0 : Rd A w v0_ p0) (p1 : Int) (p2 : Int) (r : Bool) (hr : F_spec_l05Rule p0 p1 p2 = some r) :
    Con Try.prog 46 [v0_, .int .i64 p1, .int .i64 p2] A w (fun x_ : Unit => .bool r) (fun x_ => []) := by
  obtain rfl := GRule.open hp0
  refine Con_of (v := fun (r : Bool) (x_ : Unit) => .bool r) (fs := fun r x_ => []) Try.func46 rfl Try.ntmps46 rfl (SH.start hA) rfl ?_ hr
  unfold F_spec_l05Rule
  refine J_seq ?_
  refine J_region ?_
  refine JL_st (wants_none rfl) rfl (st_box' rfl (fun w hh => (cv_aggs ⟨cv_int, cv_int, cv_int, trivial⟩))) (fun b1 => ?_)
  refine JL_q (wants_none rfl) rfl (ex_assign rfl) ?_
  refine JL_nil ?_
  refine N_then ?_
  refine J_seq ?_
  refine J_seq ?_
  refine J_draw [] (by kernel_rfl) ?_
  refine JP_take (i := 0) [0] [] rfl (by kernel_rfl) (by kernel_rfl) (by kernel_rfl) rfl rfl (wants_none rfl) rfl (ex_load_bx_agg 0 ti_60 rfl rfl rfl rfl) ?_
  refine JP_go [0] [] rfl rfl rfl (fun w3 h1_4 hp2 => ?_)
  refine JD_bnd fun r5 hr6 => ?_
  refine JD_one (i := 1) (by kernel_rfl) ?_
  refine JO_call rfl (wants_none rfl) rfl Try.call48 rfl (Ca_of0 fun w hh => c_spec_l05None _ w (fun _ hk => hk.elim)  _ hr6) (fun _ => ?_)
  refine JD_take (i := 2) hp2 rfl (by kernel_rfl) (by kernel_rfl) (by kernel_rfl) (wants_none rfl) rfl (ex_eql_seq_60 rfl rfl) ?_
  refine JD_done (by kernel_rfl) ?_
  refine N_then ?_
  refine J_if rfl (fun h7 => ?_) (fun h7 => ?_)
  · refine J_seq ?_
    refine J_region ?_
    refine JL_q (wants_none rfl) rfl (ex_assign rfl) ?_
    refine JL_nil ?_
    refine N_then ?_
    refine J_ret ?_
    refine N_then_ret ?_
    exact N_ret1 rfl (rv_tmp rfl) (fun w hh => ⟨(), rfl, hh.sel [] rfl⟩)
  · refine J_skip ?_
    refine N_then ?_
    refine J_seq ?_
    refine J_region ?_
    refine JL_q (wants_none rfl) rfl (ex_fieldAddr fi_60_0 rfl rfl) ?_
    refine JL_q (wants_none rfl) rfl (ex_load_bx 0 ti_2 rfl rfl rfl) ?_
    refine JL_q (wants_none rfl) rfl (ex_move rfl) ?_
    refine JL_q (wants_none rfl) rfl (ex_sub rfl rfl) ?_
    refine JL_bnd fun r8 hr9 => ?_
    refine JL_call (wants_none rfl) rfl Try.call22 rfl (Ca_of0 fun w hh => c_spec_l00In _ w (fun _ hk => hk.elim) _ _ _ _ hr9) (fun _ => ?_)
    refine JL_q (wants_none rfl) rfl (ex_move rfl) ?_
    refine JL_cond (fun h10 => ?_) (fun h10 => ?_)
    · refine JL_q (wants_some rfl rfl rfl h10) rfl (ex_fieldAddr fi_60_1 rfl rfl) ?_
      refine JL_q (wants_some rfl rfl rfl h10) rfl (ex_load_bx 0 ti_2 rfl rfl rfl) ?_
      refine JL_q (wants_some rfl rfl rfl h10) rfl (ex_eql rfl rfl) ?_
      refine JL_q (wants_some rfl rfl rfl h10) rfl (ex_move rfl) ?_
      refine JL_cond (fun h11 => ?_) (fun h11 => ?_)
      · refine JL_passed rfl rfl rfl h11 ?_
        refine JL_passed rfl rfl rfl h11 ?_
        refine JL_passed rfl rfl rfl h11 ?_
        refine JL_q (wants_some rfl rfl rfl h10) rfl (ex_pick_true rfl h11 rfl) ?_
        refine JL_q (wants_none rfl) rfl (ex_pick_true rfl h10 rfl) ?_
        refine JL_q (wants_none rfl) rfl (ex_move rfl) ?_
        refine JL_q (wants_some rfl rfl rfl rfl) rfl (ex_fieldAddr fi_60_2 rfl rfl) ?_
        refine JL_q (wants_some rfl rfl rfl rfl) rfl (ex_load_bx 0 ti_2 rfl rfl rfl) ?_
        refine JL_q (wants_some rfl rfl rfl rfl) rfl (ex_move rfl) ?_
        refine JL_q (wants_some rfl rfl rfl rfl) rfl (ex_sub rfl rfl) ?_
        refine JL_bnd fun r12 hr13 => ?_
        refine JL_call (wants_some rfl rfl rfl rfl) rfl Try.call22 rfl (Ca_of0 fun w hh => c_spec_l00In _ w (fun _ hk => hk.elim) _ _ _ _ hr13) (fun _ => ?_)
        refine JL_q (wants_none rfl) rfl (ex_pick_true rfl rfl rfl) ?_
        refine JL_q (wants_none rfl) rfl (ex_assign rfl) ?_
        refine JL_nil ?_
        refine N_then ?_
        refine J_ret ?_
        exact N_ret1 rfl (rv_tmp rfl) (fun w hh => ⟨(), rfl, hh.sel [] rfl⟩)
      · refine JL_q (wants_some rfl rfl rfl h11) rfl (ex_fieldAddr fi_60_1 rfl rfl) ?_
        refine JL_q (wants_some rfl rfl rfl h11) rfl (ex_load_bx 0 ti_2 rfl rfl rfl) ?_
        refine JL_q (wants_some rfl rfl rfl h11) rfl (ex_eql rfl rfl) ?_
        refine JL_q (wants_some rfl rfl rfl h10) rfl (ex_pick_false rfl h11 rfl) ?_
        refine JL_q (wants_none rfl) rfl (ex_pick_true rfl h10 rfl) ?_
        refine JL_q (wants_none rfl) rfl (ex_move rfl) ?_
        refine JL_cond (fun h14 => ?_) (fun h14 => ?_)
        · refine JL_q (wants_some rfl rfl rfl h14) rfl (ex_fieldAddr fi_60_2 rfl rfl) ?_
          refine JL_q (wants_some rfl rfl rfl h14) rfl (ex_load_bx 0 ti_2 rfl rfl rfl) ?_
          refine JL_q (wants_some rfl rfl rfl h14) rfl (ex_move rfl) ?_
          refine JL_q (wants_some rfl rfl rfl h14) rfl (ex_sub rfl rfl) ?_
          refine JL_bnd fun r15 hr16 => ?_
          refine JL_call (wants_some rfl rfl rfl h14) rfl Try.call22 rfl (Ca_of0 fun w hh => c_spec_l00In _ w (fun _ hk => hk.elim) _ _ _ _ hr16) (fun _ => ?_)
          refine JL_q (wants_none rfl) rfl (ex_pick_true rfl h14 rfl) ?_
          refine JL_q (wants_none rfl) rfl (ex_assign rfl) ?_
          refine JL_nil ?_
          refine N_then ?_
          refine J_ret ?_
          exact N_ret1 rfl (rv_tmp rfl) (fun w hh => ⟨(), rfl, hh.sel [] rfl⟩)
        · refine JL_passed rfl rfl rfl h14 ?_
          refine JL_passed rfl rfl rfl h14 ?_
          refine JL_passed rfl rfl rfl h14 ?_
          refine JL_passed rfl rfl rfl h14 ?_
          refine JL_passed rfl rfl rfl h14 ?_
          refine JL_q (wants_none rfl) rfl (ex_pick_false rfl h14 rfl) ?_
          refine JL_q (wants_none rfl) rfl (ex_assign rfl) ?_
          refine JL_nil ?_
          refine N_then ?_
          refine J_ret ?_
          exact N_ret1 rfl (rv_tmp rfl) (fun w hh => ⟨(), rfl, hh.sel [] rfl⟩)
    · refine JL_passed rfl rfl rfl h10 ?_
      refine JL_passed rfl rfl rfl h10 ?_
      refine JL_passed rfl rfl rfl h10 ?_
      refine JL_passed rfl rfl rfl h10 ?_
      refine JL_passed_undef rfl rfl rfl ?_
      refine JL_passed_undef rfl rfl rfl ?_
      refine JL_passed_undef rfl rfl rfl ?_
      refine JL_passed rfl rfl rfl h10 ?_
      refine JL_q (wants_none rfl) rfl (ex_pick_false rfl h10 rfl) ?_
      refine JL_q (wants_none rfl) rfl (ex_move rfl) ?_
      refine JL_passed rfl rfl rfl rfl ?_
      refine JL_passed rfl rfl rfl rfl ?_
      refine JL_passed rfl rfl rfl rfl ?_
      refine JL_passed rfl rfl rfl rfl ?_
      refine JL_passed rfl rfl rfl rfl ?_
      refine JL_q (wants_none rfl) rfl (ex_pick_false rfl rfl rfl) ?_
      refine JL_q (wants_none rfl) rfl (ex_assign rfl) ?_
      refine JL_nil ?_
      refine N_then ?_
      refine J_ret ?_
      exact N_ret1 rfl (rv_tmp rfl) (fun w hh => ⟨(), rfl, hh.sel [] rfl⟩)

set_option maxHeartbeats 40000000 in
theorem c_spec_l05Is (A : Nat → Prop) (w : World) (hA : ∀ k, A k → k < w.heap.size) (v0_ : Value) (p0 : GMachine) (hp0 : RdA A w.heap.size w v0_ p0) (r : Bool) (hr : F_spec_l05Is p0 = some r) :
    Con Try.prog 19 [v0_] A w (fun x_ : Unit => .bool r) (fun x_ => []) := by
  refine Con_of (v := fun (r : Bool) (x_ : Unit) => .bool r) (fs := fun r x_ => []) Try.func19 rfl Try.ntmps19 rfl ((SH.start hA).start_pa' rfl hp0) rfl ?_ hr
  unfold F_spec_l05Is
  refine J_seq ?_
  refine J_region ?_
  refine JL_q (wants_none rfl) rfl (ex_assign rfl) ?_
  refine JL_nil ?_
  refine N_then ?_
  refine J_seq ?_
  refine J_cut' (S' := Unit) (G' := Unit) (fun _ _ => [(0, v0_)]) (fun _ _ => [.pa v0_ p0]) ?_ (fun s1 g2 => ?_)
  · refine J_seq ?_
    refine J_draw [] (by kernel_rfl) ?_
    refine JP_take (i := 0) [0] [] rfl (by kernel_rfl) (by kernel_rfl) (by kernel_rfl) rfl rfl (wants_none rfl) rfl (ex_move rfl) ?_
    refine JP_take (i := 1) [0] [] rfl (by kernel_rfl) (by kernel_rfl) (by kernel_rfl) rfl rfl (wants_none rfl) rfl (ex_nilCheck_pa 0 rfl rfl) ?_
    refine JP_sq (i := 2) [] rfl (by kernel_rfl) (by kernel_rfl) (by kernel_rfl) rfl (wants_none rfl) rfl (sq_field_pa 0 (GMachine.at_Symbols _) fi_35_0 rfl rfl rfl) (fun q3 => ?_)
    refine JP_sq (i := 3) [] rfl (by kernel_rfl) (by kernel_rfl) (by kernel_rfl) rfl (wants_none rfl) rfl (sq_load_pa_o 0 (opens_int _) ti_2 rfl rfl) (fun _ => ?_)
    refine JP_go [0, 1] [] rfl rfl rfl (fun w6 h1_7 hp5 => ?_)
    refine JD_bnd fun r8 hr9 => ?_
    refine JD_one (i := 4) (by kernel_rfl) ?_
    refine JO_call rfl (wants_none rfl) rfl Try.call22 rfl (Ca_of0 fun w hh => c_spec_l00In _ w (fun _ hk => hk.elim) _ _ _ _ hr9) (fun _ => ?_)
    refine JD_take (i := 5) hp5 rfl (by kernel_rfl) (by kernel_rfl) (by kernel_rfl) (wants_none rfl) rfl (ex_not rfl) ?_
    refine JD_take (i := 6) hp5 rfl (by kernel_rfl) (by kernel_rfl) (by kernel_rfl) (wants_none rfl) rfl (ex_move rfl) ?_
    refine JD_cond (fun h10 => ?_) (fun h10 => ?_)
    · refine JD_pass (i := 7) rfl (by kernel_rfl) (by kernel_rfl) (by kernel_rfl) rfl rfl h10 rfl ?_
      refine JD_pass (i := 8) rfl (by kernel_rfl) (by kernel_rfl) (by kernel_rfl) rfl rfl h10 rfl ?_
      refine JD_pass (i := 9) rfl (by kernel_rfl) (by kernel_rfl) (by kernel_rfl) rfl rfl h10 rfl ?_
      refine JD_pass (i := 10) rfl (by kernel_rfl) (by kernel_rfl) (by kernel_rfl) rfl rfl h10 rfl ?_
      refine JD_pass (i := 11) rfl (by kernel_rfl) (by kernel_rfl) (by kernel_rfl) rfl rfl h10 rfl ?_
      refine JD_pass (i := 12) rfl (by kernel_rfl) (by kernel_rfl) (by kernel_rfl) rfl rfl h10 rfl ?_
      refine JD_take (i := 13) hp5 rfl (by kernel_rfl) (by kernel_rfl) (by kernel_rfl) (wants_none rfl) rfl (ex_pick_true rfl h10 rfl) ?_
      refine JD_take (i := 14) hp5 rfl (by kernel_rfl) (by kernel_rfl) (by kernel_rfl) (wants_none rfl) rfl (ex_move rfl) ?_
      refine JD_pass (i := 15) rfl (by kernel_rfl) (by kernel_rfl) (by kernel_rfl) rfl rfl rfl rfl ?_
      refine JD_pass (i := 16) rfl (by kernel_rfl) (by kernel_rfl) (by kernel_rfl) rfl rfl rfl rfl ?_
      refine JD_pass (i := 17) rfl (by kernel_rfl) (by kernel_rfl) (by kernel_rfl) rfl rfl rfl rfl ?_
      refine JD_pass (i := 18) rfl (by kernel_rfl) (by kernel_rfl) (by kernel_rfl) rfl rfl rfl rfl ?_
      refine JD_pass (i := 19) rfl (by kernel_rfl) (by kernel_rfl) (by kernel_rfl) rfl rfl rfl rfl ?_
      refine JD_pass (i := 20) rfl (by kernel_rfl) (by kernel_rfl) (by kernel_rfl) rfl rfl rfl rfl ?_
      refine JD_pass (i := 21) rfl (by kernel_rfl) (by kernel_rfl) (by kernel_rfl) rfl rfl rfl rfl ?_
      refine JD_pass (i := 22) rfl (by kernel_rfl) (by kernel_rfl) (by kernel_rfl) rfl rfl rfl rfl ?_
      refine JD_pass (i := 23) rfl (by kernel_rfl) (by kernel_rfl) (by kernel_rfl) rfl rfl rfl rfl ?_
      refine JD_pass (i := 24) rfl (by kernel_rfl) (by kernel_rfl) (by kernel_rfl) rfl rfl rfl rfl ?_
      refine JD_pass (i := 25) rfl (by kernel_rfl) (by kernel_rfl) (by kernel_rfl) rfl rfl rfl rfl ?_
      refine JD_pass (i := 26) rfl (by kernel_rfl) (by kernel_rfl) (by kernel_rfl) rfl rfl rfl rfl ?_
      refine JD_pass (i := 27) rfl (by kernel_rfl) (by kernel_rfl) (by kernel_rfl) rfl rfl rfl rfl ?_
      refine JD_pass (i := 28) rfl (by kernel_rfl) (by kernel_rfl) (by kernel_rfl) rfl rfl rfl rfl ?_
      refine JD_pass (i := 29) rfl (by kernel_rfl) (by kernel_rfl) (by kernel_rfl) rfl rfl rfl rfl ?_
      refine JD_take (i := 30) hp5 rfl (by kernel_rfl) (by kernel_rfl) (by kernel_rfl) (wants_none rfl) rfl (ex_pick_true rfl rfl rfl) ?_
      refine JD_done (by kernel_rfl) ?_
      refine N_then ?_
      refine J_if_true rfl rfl ?_
      refine J_seq ?_
      refine J_region ?_
      refine JL_q (wants_none rfl) rfl (ex_assign rfl) ?_
      refine JL_nil ?_
      refine N_then ?_
      refine J_ret ?_
      refine N_mid_ret ?_
      refine N_then_ret ?_
      exact N_ret1 rfl (rv_tmp rfl) (fun w hh => ⟨(), rfl, hh.sel [] rfl⟩)
    · refine JD_take (i := 7) hp5 rfl (by kernel_rfl) (by kernel_rfl) (by kernel_rfl) (wants_some rfl rfl rfl h10) rfl (ex_move rfl) ?_
      refine JD_take (i := 8) hp5 rfl (by kernel_rfl) (by kernel_rfl) (by kernel_rfl) (wants_some rfl rfl rfl h10) rfl (ex_nilCheck_pa 1 rfl rfl) ?_
      refine JD_sq (i := 9) (fs := fun q11 => [.pa q11 p0.States]) [] h1_7 rfl rfl (by kernel_rfl) (by kernel_rfl) (by kernel_rfl) (wants_some rfl rfl rfl h10) rfl (sq_field_pa 1 (GMachine.at_States _) fi_35_1 rfl rfl rfl) (fun _ => rfl) (fun q11 h1_12 => ?_)
      refine JD_sq (i := 10) [] h1_12 rfl rfl (by kernel_rfl) (by kernel_rfl) (by kernel_rfl) (wants_some rfl rfl rfl h10) rfl (sq_load_pa_o 0 (opens_int _) ti_2 rfl rfl) (fun _ => rfl) (fun _ h1_14 => ?_)
      refine JD_bnd fun r15 hr16 => ?_
      refine JD_one (i := 11) (by kernel_rfl) ?_
      refine JO_call rfl (wants_some rfl rfl rfl h10) rfl Try.call22 rfl (Ca_of0 fun w hh => c_spec_l00In _ w (fun _ hk => hk.elim) _ _ _ _ hr16) (fun _ => ?_)
      refine JD_take (i := 12) hp5 rfl (by kernel_rfl) (by kernel_rfl) (by kernel_rfl) (wants_some rfl rfl rfl h10) rfl (ex_not rfl) ?_
      refine JD_take (i := 13) hp5 rfl (by kernel_rfl) (by kernel_rfl) (by kernel_rfl) (wants_none rfl) rfl (ex_pick_false rfl h10 rfl) ?_
      refine JD_take (i := 14) hp5 rfl (by kernel_rfl) (by kernel_rfl) (by kernel_rfl) (wants_none rfl) rfl (ex_move rfl) ?_
      refine JD_cond (fun h17 => ?_) (fun h17 => ?_)
      · refine JD_pass (i := 15) rfl (by kernel_rfl) (by kernel_rfl) (by kernel_rfl) rfl rfl h17 rfl ?_
        refine JD_pass (i := 16) rfl (by kernel_rfl) (by kernel_rfl) (by kernel_rfl) rfl rfl h17 rfl ?_
        refine JD_pass (i := 17) rfl (by kernel_rfl) (by kernel_rfl) (by kernel_rfl) rfl rfl h17 rfl ?_
        refine JD_pass (i := 18) rfl (by kernel_rfl) (by kernel_rfl) (by kernel_rfl) rfl rfl h17 rfl ?_
        refine JD_pass (i := 19) rfl (by kernel_rfl) (by kernel_rfl) (by kernel_rfl) rfl rfl h17 rfl ?_
        refine JD_pass (i := 20) rfl (by kernel_rfl) (by kernel_rfl) (by kernel_rfl) rfl rfl h17 rfl ?_
        refine JD_pass (i := 21) rfl (by kernel_rfl) (by kernel_rfl) (by kernel_rfl) rfl rfl h17 rfl ?_
        refine JD_pass (i := 22) rfl (by kernel_rfl) (by kernel_rfl) (by kernel_rfl) rfl rfl h17 rfl ?_
        refine JD_pass (i := 23) rfl (by kernel_rfl) (by kernel_rfl) (by kernel_rfl) rfl rfl h17 rfl ?_
        refine JD_pass (i := 24) rfl (by kernel_rfl) (by kernel_rfl) (by kernel_rfl) rfl rfl h17 rfl ?_
        refine JD_pass (i := 25) rfl (by kernel_rfl) (by kernel_rfl) (by kernel_rfl) rfl rfl h17 rfl ?_
        refine JD_pass (i := 26) rfl (by kernel_rfl) (by kernel_rfl) (by kernel_rfl) rfl rfl h17 rfl ?_
        refine JD_pass (i := 27) rfl (by kernel_rfl) (by kernel_rfl) (by kernel_rfl) rfl rfl h17 rfl ?_
        refine JD_pass (i := 28) rfl (by kernel_rfl) (by kernel_rfl) (by kernel_rfl) rfl rfl h17 rfl ?_
        refine JD_pass (i := 29) rfl (by kernel_rfl) (by kernel_rfl) (by kernel_rfl) rfl rfl h17 rfl ?_
        refine JD_take (i := 30) hp5 rfl (by kernel_rfl) (by kernel_rfl) (by kernel_rfl) (wants_none rfl) rfl (ex_pick_true rfl h17 rfl) ?_
        refine JD_done (by kernel_rfl) ?_
        refine N_then ?_
        refine J_if_true rfl rfl ?_
        refine J_seq ?_
        refine J_region ?_
        refine JL_q (wants_none rfl) rfl (ex_assign rfl) ?_
        refine JL_nil ?_
        refine N_then ?_
        refine J_ret ?_
        refine N_mid_ret ?_
        refine N_then_ret ?_
        exact N_ret1 rfl (rv_tmp rfl) (fun w hh => ⟨(), rfl, hh.sel [] rfl⟩)
      · refine JD_take (i := 15) hp5 rfl (by kernel_rfl) (by kernel_rfl) (by kernel_rfl) (wants_some rfl rfl rfl h17) rfl (ex_move rfl) ?_
        refine JD_take (i := 16) hp5 rfl (by kernel_rfl) (by kernel_rfl) (by kernel_rfl) (wants_some rfl rfl rfl h17) rfl (ex_nilCheck_pa 1 rfl rfl) ?_
        refine JD_sq (i := 17) (fs := fun q18 => [.pa q18 p0.Rules]) [] h1_14 rfl rfl (by kernel_rfl) (by kernel_rfl) (by kernel_rfl) (wants_some rfl rfl rfl h17) rfl (sq_field_pa 2 (GMachine.at_Rules _) fi_35_2 rfl rfl rfl) (fun _ => rfl) (fun q18 h1_19 => ?_)
        refine JD_sq (i := 18) [] h1_19 rfl rfl (by kernel_rfl) (by kernel_rfl) (by kernel_rfl) (wants_some rfl rfl rfl h17) rfl (sq_load_pa_o 0 (opens_sl _) ti_33 rfl rfl) (fun _ => rfl) (fun v20 h1_21 => ?_)
        refine JD_take (i := 20) hp5 rfl (by kernel_rfl) (by kernel_rfl) (by kernel_rfl) (wants_some rfl rfl rfl h17) rfl (ex_move rfl) ?_
        refine JD_take (i := 21) hp5 rfl (by kernel_rfl) (by kernel_rfl) (by kernel_rfl) (wants_some rfl rfl rfl h17) rfl (ex_nilCheck_pa 1 rfl rfl) ?_
        refine JD_sq (i := 22) (fs := fun q22 => [.pa q22 p0.Symbols]) [] h1_21 rfl rfl (by kernel_rfl) (by kernel_rfl) (by kernel_rfl) (wants_some rfl rfl rfl h17) rfl (sq_field_pa 4 (GMachine.at_Symbols _) fi_35_0 rfl rfl rfl) (fun _ => rfl) (fun q22 h1_23 => ?_)
        refine JD_sq (i := 23) [] h1_23 rfl rfl (by kernel_rfl) (by kernel_rfl) (by kernel_rfl) (wants_some rfl rfl rfl h17) rfl (sq_load_pa_o 0 (opens_int _) ti_2 rfl rfl) (fun _ => rfl) (fun _ h1_25 => ?_)
        refine JD_take (i := 24) hp5 rfl (by kernel_rfl) (by kernel_rfl) (by kernel_rfl) (wants_some rfl rfl rfl h17) rfl (ex_move rfl) ?_
        refine JD_take (i := 25) hp5 rfl (by kernel_rfl) (by kernel_rfl) (by kernel_rfl) (wants_some rfl rfl rfl h17) rfl (ex_nilCheck_pa 1 rfl rfl) ?_
        refine JD_sq (i := 26) (fs := fun q26 => [.pa q26 p0.States]) [] h1_25 rfl rfl (by kernel_rfl) (by kernel_rfl) (by kernel_rfl) (wants_some rfl rfl rfl h17) rfl (sq_field_pa 5 (GMachine.at_States _) fi_35_1 rfl rfl rfl) (fun _ => rfl) (fun q26 h1_27 => ?_)
        refine JD_sq (i := 27) [] h1_27 rfl rfl (by kernel_rfl) (by kernel_rfl) (by kernel_rfl) (wants_some rfl rfl rfl h17) rfl (sq_load_pa_o 0 (opens_int _) ti_2 rfl rfl) (fun _ => rfl) (fun _ h1_29 => ?_)
        refine JD_take (i := 28) hp5 rfl (by kernel_rfl) (by kernel_rfl) (by kernel_rfl) (wants_some rfl rfl rfl h17) rfl (ex_mul rfl rfl) ?_
        refine JD_one (i := 19) (by kernel_rfl) ?_
        refine JO_q rfl (wants_some rfl rfl rfl h17) rfl (ex_len_rd 2 Try.underlying33 rfl rfl) ?_
        refine JD_take (i := 29) hp5 rfl (by kernel_rfl) (by kernel_rfl) (by kernel_rfl) (wants_some rfl rfl rfl h17) rfl (ex_neq rfl rfl) ?_
        refine JD_take (i := 30) hp5 rfl (by kernel_rfl) (by kernel_rfl) (by kernel_rfl) (wants_none rfl) rfl (ex_pick_false rfl h17 rfl) ?_
        refine JD_done (by kernel_rfl) ?_
        refine N_then ?_
        refine J_if rfl (fun h30 => ?_) (fun h30 => ?_)
        · refine J_seq ?_
          refine J_region ?_
          refine JL_q (wants_none rfl) rfl (ex_assign rfl) ?_
          refine JL_nil ?_
          refine N_then ?_
          refine J_ret ?_
          refine N_mid_ret ?_
          refine N_then_ret ?_
          exact N_ret1 rfl (rv_tmp rfl) (fun w hh => ⟨(), rfl, hh.sel [] rfl⟩)
        · refine J_skip ?_
          exact N_meet' () ⟨rfl, trivial⟩ [6] rfl rfl
  · refine N_then ?_
    refine J_seq ?_
    refine J_seq ?_
    refine J_region ?_
    refine JL_q (wants_none rfl) rfl (ex_assign rfl) ?_
    refine JL_nil ?_
    refine N_then ?_
    refine J_loop' (S := Int) (G := Unit) (F_spec_l05Is_L1 p0) (fun s31 _ => [(0, v0_), (3, .int .i64 s31)]) (fun s31 _ => [.pa v0_ p0]) 0 () ⟨rfl, rfl, trivial⟩ [0] rfl rfl (fun s31 g32 => ?_) (fun s31 g32 => ?_)
    · unfold F_spec_l05Is_L1
      refine J_seq ?_
      refine J_seq ?_
      refine J_region ?_
      refine JL_q (wants_none rfl) rfl (ex_move rfl) ?_
      refine JL_q (wants_none rfl) rfl (ex_move rfl) ?_
      refine JL_q (wants_none rfl) rfl (ex_nilCheck_pa 0 rfl rfl) ?_
      refine JL_st (wants_none rfl) rfl (st_field_pa 0 (GMachine.at_Rules _) fi_35_2 rfl rfl rfl) (fun q33 => ?_)
      refine JL_st (wants_none rfl) rfl (st_load_pa_o 0 (opens_sl _) ti_33 rfl rfl) (fun v34 => ?_)
      refine JL_q (wants_none rfl) rfl (ex_len_rd 0 Try.underlying33 rfl rfl) ?_
      refine JL_q (wants_none rfl) rfl (ex_lss rfl rfl) ?_
      refine JL_nil ?_
      refine N_then ?_
      refine J_if rfl (fun h35 => ?_) (fun h35 => ?_)
      · refine J_skip ?_
        refine N_then ?_
        refine J_seq ?_
        refine J_block ?_
        refine J_seq ?_
        refine J_draw [] (by kernel_rfl) ?_
        refine JP_take (i := 0) [0, 1, 2] [] rfl (by kernel_rfl) (by kernel_rfl) (by kernel_rfl) rfl rfl (wants_none rfl) rfl (ex_move rfl) ?_
        refine JP_take (i := 1) [0, 1, 2] [] rfl (by kernel_rfl) (by kernel_rfl) (by kernel_rfl) rfl rfl (wants_none rfl) rfl (ex_nilCheck_pa 2 rfl rfl) ?_
        refine JP_sq (i := 2) [] rfl (by kernel_rfl) (by kernel_rfl) (by kernel_rfl) rfl (wants_none rfl) rfl (sq_field_pa 2 (GMachine.at_Rules _) fi_35_2 rfl rfl rfl) (fun q36 => ?_)
        refine JP_sq (i := 3) [] rfl (by kernel_rfl) (by kernel_rfl) (by kernel_rfl) rfl (wants_none rfl) rfl (sq_load_pa_o 0 (opens_sl _) ti_33 rfl rfl) (fun v37 => ?_)
        refine JP_take (i := 4) [0, 1, 2, 3, 4] [] rfl (by kernel_rfl) (by kernel_rfl) (by kernel_rfl) rfl rfl (wants_none rfl) rfl (ex_move rfl) ?_
        refine JP_bnd fun y38 hy39 => ?_
        refine JP_sq (i := 5) [] rfl (by kernel_rfl) (by kernel_rfl) (by kernel_rfl) rfl (wants_none rfl) rfl (sq_index 0 Try.underlying33 ti_60 rfl rfl rfl hy39) (fun q40 => ?_)
        refine JP_sq (i := 6) [] rfl (by kernel_rfl) (by kernel_rfl) (by kernel_rfl) rfl (wants_none rfl) rfl (sq_load_pt_o 0 (GRule.opens _) ti_60 rfl rfl) (fun _ => ?_)
        refine JP_take (i := 7) [0, 1, 2, 3, 4, 5] [] rfl (by kernel_rfl) (by kernel_rfl) (by kernel_rfl) rfl rfl (wants_none rfl) rfl (ex_move rfl) ?_
        refine JP_take (i := 8) [0, 1, 2, 3, 4, 5] [] rfl (by kernel_rfl) (by kernel_rfl) (by kernel_rfl) rfl rfl (wants_none rfl) rfl (ex_nilCheck_pa 5 rfl rfl) ?_
        refine JP_sq (i := 9) [] rfl (by kernel_rfl) (by kernel_rfl) (by kernel_rfl) rfl (wants_none rfl) rfl (sq_field_pa 5 (GMachine.at_Symbols _) fi_35_0 rfl rfl rfl) (fun q42 => ?_)
        refine JP_sq (i := 10) [] rfl (by kernel_rfl) (by kernel_rfl) (by kernel_rfl) rfl (wants_none rfl) rfl (sq_load_pa_o 0 (opens_int _) ti_2 rfl rfl) (fun _ => ?_)
        refine JP_take (i := 11) [0, 1, 2, 3, 4, 5, 6] [] rfl (by kernel_rfl) (by kernel_rfl) (by kernel_rfl) rfl rfl (wants_none rfl) rfl (ex_move rfl) ?_
        refine JP_take (i := 12) [0, 1, 2, 3, 4, 5, 6] [] rfl (by kernel_rfl) (by kernel_rfl) (by kernel_rfl) rfl rfl (wants_none rfl) rfl (ex_nilCheck_pa 6 rfl rfl) ?_
        refine JP_sq (i := 13) [] rfl (by kernel_rfl) (by kernel_rfl) (by kernel_rfl) rfl (wants_none rfl) rfl (sq_field_pa 6 (GMachine.at_States _) fi_35_1 rfl rfl rfl) (fun q44 => ?_)
        refine JP_sq (i := 14) [] rfl (by kernel_rfl) (by kernel_rfl) (by kernel_rfl) rfl (wants_none rfl) rfl (sq_load_pa_o 0 (opens_int _) ti_2 rfl rfl) (fun _ => ?_)
        refine JP_go [0, 1, 2, 3, 4, 5, 6, 7] [] rfl rfl rfl (fun w47 h1_48 hp46 => ?_)
        refine JD_bnd fun r49 hr50 => ?_
        refine JD_one (i := 15) (by kernel_rfl) ?_
        refine JO_call rfl (wants_none rfl) rfl Try.call46 rfl (Ca_of0 fun w hh => c_spec_l05Rule _ w (fun _ hk => hk.elim) _ _ (GRule.rdmk (Rd.mk_int _ _ _) (Rd.mk_int _ _ _) (Rd.mk_int _ _ _)) _ _ _ hr50) (fun _ => ?_)
        refine JD_take (i := 16) hp46 rfl (by kernel_rfl) (by kernel_rfl) (by kernel_rfl) (wants_none rfl) rfl (ex_not rfl) ?_
        refine JD_done (by kernel_rfl) ?_
        refine N_then ?_
        refine J_if rfl (fun h51 => ?_) (fun h51 => ?_)
        · refine J_seq ?_
          refine J_region ?_
          refine JL_q (wants_none rfl) rfl (ex_assign rfl) ?_
          refine JL_nil ?_
          refine N_then ?_
          refine J_ret ?_
          refine N_block_ret ?_
          refine N_then_ret ?_
          refine N_round_ret ?_
          refine N_then_ret ?_
          exact N_ret1 rfl (rv_tmp rfl) (fun w hh => ⟨(), rfl, hh.sel [] rfl⟩)
        · refine J_skip ?_
          refine N_block ?_
          refine N_then ?_
          refine J_region ?_
          refine JL_q (wants_none rfl) rfl (ex_move rfl) ?_
          refine JL_q (wants_none rfl) rfl (ex_add rfl rfl) ?_
          refine JL_q (wants_none rfl) rfl (ex_assign rfl) ?_
          refine JL_nil ?_
          exact N_next' () ⟨rfl, rfl, trivial⟩ [7] rfl rfl
      · refine J_exit ?_
        refine N_then_exit ?_
        exact N_break' () ⟨rfl, rfl, trivial⟩ [2] rfl rfl
    · refine N_then ?_
      refine J_seq ?_
      refine J_region ?_
      refine JL_q (wants_none rfl) rfl (ex_assign rfl) ?_
      refine JL_nil ?_
      refine N_then ?_
      refine J_ret ?_
      exact N_ret1 rfl (rv_tmp rfl) (fun w hh => ⟨(), rfl, hh.sel [] rfl⟩)

set_option maxHeartbeats 40000000 in
theorem c_spec_l05Cells (A : Nat → Prop) (w : World) (hA : ∀ k, A k → k < w.heap.size) (v0_ : Value) (p0 : GMachine) (hp0 : RdA A w.heap.size w v0_ p0) (v1_ : Value) (p1 : (List Int)) (hp1 : Rd A w v1_ p1) (r : Bool) (hr : F_spec_l05Cells p0 p1 = some r) :
    Con Try.prog 47 [v0_, v1_] A w (fun x_ : Unit => .bool r) (fun x_ => []) := by
  refine Con_of (v := fun (r : Bool) (x_ : Unit) => .bool r) (fs := fun r x_ => []) Try.func47 rfl Try.ntmps47 rfl (((SH.start hA).start_pa' rfl hp0).start_rd rfl hp1) rfl ?_ hr
  unfold F_spec_l05Cells
  refine J_seq ?_
  refine J_region ?_
  refine JL_q (wants_none rfl) rfl (ex_assign rfl) ?_
  refine JL_nil ?_
  refine N_then ?_
  refine J_seq ?_
  refine J_seq ?_
  refine J_region ?_
  refine JL_q (wants_none rfl) rfl (ex_assign rfl) ?_
  refine JL_nil ?_
  refine N_then ?_
  refine J_loop' (S := Int) (G := Unit) (F_spec_l05Cells_L1 p0 p1) (fun s1 _ => [(0, v0_), (1, v1_), (5, .int .i64 s1)]) (fun s1 _ => [.pa v0_ p0, .rd v1_ p1]) 0 () ⟨rfl, rfl, rfl, trivial⟩ [1, 0] rfl rfl (fun s1 g2 => ?_) (fun s1 g2 => ?_)
  · unfold F_spec_l05Cells_L1
    refine J_seq ?_
    refine J_seq ?_
    refine J_region ?_
    refine JL_q (wants_none rfl) rfl (ex_move rfl) ?_
    refine JL_q (wants_none rfl) rfl (ex_move rfl) ?_
    refine JL_q (wants_none rfl) rfl (ex_len_rd 1 Try.underlying25 rfl rfl) ?_
    refine JL_q (wants_none rfl) rfl (ex_lss rfl rfl) ?_
    refine JL_nil ?_
    refine N_then ?_
    refine J_if rfl (fun h3 => ?_) (fun h3 => ?_)
    · refine J_skip ?_
      refine N_then ?_
      refine J_seq ?_
      refine J_block ?_
      refine J_seq ?_
      refine J_draw [] (by kernel_rfl) ?_
      refine JP_take (i := 0) [0, 1] [] rfl (by kernel_rfl) (by kernel_rfl) (by kernel_rfl) rfl rfl (wants_none rfl) rfl (ex_move rfl) ?_
      refine JP_take (i := 1) [0, 1] [] rfl (by kernel_rfl) (by kernel_rfl) (by kernel_rfl) rfl rfl (wants_none rfl) rfl (ex_move rfl) ?_
      refine JP_bnd fun y4 hy5 => ?_
      refine JP_sq (i := 2) [] rfl (by kernel_rfl) (by kernel_rfl) (by kernel_rfl) rfl (wants_none rfl) rfl (sq_index 1 Try.underlying25 ti_2 rfl rfl rfl hy5) (fun q6 => ?_)
      refine JP_sq (i := 3) [] rfl (by kernel_rfl) (by kernel_rfl) (by kernel_rfl) rfl (wants_none rfl) rfl (sq_load_pt_o 0 (opens_int _) ti_2 rfl rfl) (fun _ => ?_)
      refine JP_take (i := 4) [0, 1, 2] [] rfl (by kernel_rfl) (by kernel_rfl) (by kernel_rfl) rfl rfl (wants_none rfl) rfl (ex_move rfl) ?_
      refine JP_take (i := 5) [0, 1, 2] [] rfl (by kernel_rfl) (by kernel_rfl) (by kernel_rfl) rfl rfl (wants_none rfl) rfl (ex_nilCheck_pa 1 rfl rfl) ?_
      refine JP_sq (i := 6) [] rfl (by kernel_rfl) (by kernel_rfl) (by kernel_rfl) rfl (wants_none rfl) rfl (sq_field_pa 1 (GMachine.at_Symbols _) fi_35_0 rfl rfl rfl) (fun q8 => ?_)
      refine JP_sq (i := 7) [] rfl (by kernel_rfl) (by kernel_rfl) (by kernel_rfl) rfl (wants_none rfl) rfl (sq_load_pa_o 0 (opens_int _) ti_2 rfl rfl) (fun _ => ?_)
      refine JP_take (i := 8) [0, 1, 2, 3] [] rfl (by kernel_rfl) (by kernel_rfl) (by kernel_rfl) rfl rfl (wants_none rfl) rfl (ex_sub rfl rfl) ?_
      refine JP_go [0, 1, 2, 3] [] rfl rfl rfl (fun w11 h1_12 hp10 => ?_)
      refine JD_bnd fun r13 hr14 => ?_
      refine JD_one (i := 9) (by kernel_rfl) ?_
      refine JO_call rfl (wants_none rfl) rfl Try.call22 rfl (Ca_of0 fun w hh => c_spec_l00In _ w (fun _ hk => hk.elim) _ _ _ _ hr14) (fun _ => ?_)
      refine JD_take (i := 10) hp10 rfl (by kernel_rfl) (by kernel_rfl) (by kernel_rfl) (wants_none rfl) rfl (ex_not rfl) ?_
      refine JD_done (by kernel_rfl) ?_
      refine N_then ?_
      refine J_if rfl (fun h15 => ?_) (fun h15 => ?_)
      · refine J_seq ?_
        refine J_region ?_
        refine JL_q (wants_none rfl) rfl (ex_assign rfl) ?_
        refine JL_nil ?_
        refine N_then ?_
        refine J_ret ?_
        refine N_block_ret ?_
        refine N_then_ret ?_
        refine N_round_ret ?_
        refine N_then_ret ?_
        exact N_ret1 rfl (rv_tmp rfl) (fun w hh => ⟨(), rfl, hh.sel [] rfl⟩)
      · refine J_skip ?_
        refine N_block ?_
        refine N_then ?_
        refine J_region ?_
        refine JL_q (wants_none rfl) rfl (ex_move rfl) ?_
        refine JL_q (wants_none rfl) rfl (ex_add rfl rfl) ?_
        refine JL_q (wants_none rfl) rfl (ex_assign rfl) ?_
        refine JL_nil ?_
        exact N_next' () ⟨rfl, rfl, rfl, trivial⟩ [2, 3] rfl rfl
    · refine J_exit ?_
      refine N_then_exit ?_
      exact N_break' () ⟨rfl, rfl, rfl, trivial⟩ [0, 1] rfl rfl
  · refine N_then ?_
    refine J_seq ?_
    refine J_region ?_
    refine JL_q (wants_none rfl) rfl (ex_move rfl) ?_
    refine JL_q (wants_none rfl) rfl (ex_len_rd 1 Try.underlying25 rfl rfl) ?_
    refine JL_q (wants_none rfl) rfl (ex_leq rfl rfl) ?_
    refine JL_q (wants_none rfl) rfl (ex_move rfl) ?_
    refine JL_cond (fun h16 => ?_) (fun h16 => ?_)
    · refine JL_q (wants_some rfl rfl rfl h16) rfl (ex_move rfl) ?_
      refine JL_q (wants_some rfl rfl rfl h16) rfl (ex_len_rd 1 Try.underlying25 rfl rfl) ?_
      refine JL_q (wants_some rfl rfl rfl h16) rfl (ex_eql rfl rfl) ?_
      refine JL_q (wants_some rfl rfl rfl h16) rfl (ex_move rfl) ?_
      refine JL_cond (fun h17 => ?_) (fun h17 => ?_)
      · refine JL_passed rfl rfl rfl h17 ?_
        refine JL_passed rfl rfl rfl h17 ?_
        refine JL_passed rfl rfl rfl h17 ?_
        refine JL_passed rfl rfl rfl h17 ?_
        refine JL_passed rfl rfl rfl h17 ?_
        refine JL_passed rfl rfl rfl h17 ?_
        refine JL_passed rfl rfl rfl h17 ?_
        refine JL_q (wants_some rfl rfl rfl h16) rfl (ex_pick_true rfl h17 rfl) ?_
        refine JL_q (wants_none rfl) rfl (ex_pick_true rfl h16 rfl) ?_
        refine JL_q (wants_none rfl) rfl (ex_assign rfl) ?_
        refine JL_nil ?_
        refine N_then ?_
        refine J_ret ?_
        exact N_ret1 rfl (rv_tmp rfl) (fun w hh => ⟨(), rfl, hh.sel [] rfl⟩)
      · refine JL_q (wants_some rfl rfl rfl h17) rfl (ex_move rfl) ?_
        refine JL_q (wants_some rfl rfl rfl h17) rfl (ex_move rfl) ?_
        refine JL_q (wants_some rfl rfl rfl h17) rfl (ex_len_rd 1 Try.underlying25 rfl rfl) ?_
        refine JL_q (wants_some rfl rfl rfl h17) rfl (ex_sub rfl rfl) ?_
        refine JL_bnd fun y18 hy19 => ?_
        refine JL_st (wants_some rfl rfl rfl h17) rfl (st_index 1 Try.underlying25 ti_2 rfl rfl rfl hy19) (fun q20 => ?_)
        refine JL_st (wants_some rfl rfl rfl h17) rfl (st_load_pt_o 0 (opens_int _) ti_2 rfl rfl) (fun _ => ?_)
        refine JL_q (wants_some rfl rfl rfl h17) rfl (ex_neq rfl rfl) ?_
        refine JL_q (wants_some rfl rfl rfl h16) rfl (ex_pick_false rfl h17 rfl) ?_
        refine JL_q (wants_none rfl) rfl (ex_pick_true rfl h16 rfl) ?_
        refine JL_q (wants_none rfl) rfl (ex_assign rfl) ?_
        refine JL_nil ?_
        refine N_then ?_
        refine J_ret ?_
        exact N_ret1 rfl (rv_tmp rfl) (fun w hh => ⟨(), rfl, hh.sel [] rfl⟩)
    · refine JL_passed rfl rfl rfl h16 ?_
      refine JL_passed rfl rfl rfl h16 ?_
      refine JL_passed rfl rfl rfl h16 ?_
      refine JL_passed rfl rfl rfl h16 ?_
      refine JL_passed_undef rfl rfl rfl ?_
      refine JL_passed_undef rfl rfl rfl ?_
      refine JL_passed_undef rfl rfl rfl ?_
      refine JL_passed_undef rfl rfl rfl ?_
      refine JL_passed_undef rfl rfl rfl ?_
      refine JL_passed_undef rfl rfl rfl ?_
      refine JL_passed_undef rfl rfl rfl ?_
      refine JL_passed rfl rfl rfl h16 ?_
      refine JL_q (wants_none rfl) rfl (ex_pick_false rfl h16 rfl) ?_
      refine JL_q (wants_none rfl) rfl (ex_assign rfl) ?_
      refine JL_nil ?_
      refine N_then ?_
      refine J_ret ?_
      exact N_ret1 rfl (rv_tmp rfl) (fun w hh => ⟨(), rfl, hh.sel [] rfl⟩)

set_option maxHeartbeats 40000000 in
theorem c_spec_l05Good (A : Nat → Prop) (w : World) (hA : ∀ k, A k → k < w.heap.size) (v0_ : Value) (p0 : GMachine) (hp0 : RdA A w.heap.size w v0_ p0) (v1_ : Value) (p1 : GConfig) (hp1 : RdA A w.heap.size w v1_ p1) (r : Bool) (hr : F_spec_l05Good p0 p1 = some r) :
    Con Try.prog 20 [v0_, v1_] A w (fun x_ : Unit => .bool r) (fun x_ => []) := by
  refine Con_of (v := fun (r : Bool) (x_ : Unit) => .bool r) (fs := fun r x_ => []) Try.func20 rfl Try.ntmps20 rfl (((SH.start hA).start_pa' rfl hp0).start_pa' rfl hp1) rfl ?_ hr
  unfold F_spec_l05Good
  refine J_seq ?_
  refine J_region ?_
  refine JL_q (wants_none rfl) rfl (ex_assign rfl) ?_
  refine JL_nil ?_
  refine N_then ?_
  refine J_seq ?_
  refine J_draw [] (by kernel_rfl) ?_
  refine JP_take (i := 0) [0, 1] [] rfl (by kernel_rfl) (by kernel_rfl) (by kernel_rfl) rfl rfl (wants_none rfl) rfl (ex_move rfl) ?_
  refine JP_take (i := 1) [0, 1] [] rfl (by kernel_rfl) (by kernel_rfl) (by kernel_rfl) rfl rfl (wants_none rfl) rfl (ex_nilCheck_pa 0 rfl rfl) ?_
  refine JP_sq (i := 2) [] rfl (by kernel_rfl) (by kernel_rfl) (by kernel_rfl) rfl (wants_none rfl) rfl (sq_field_pa 0 (GConfig.at_State _) fi_37_0 rfl rfl rfl) (fun q1 => ?_)
  refine JP_sq (i := 3) [] rfl (by kernel_rfl) (by kernel_rfl) (by kernel_rfl) rfl (wants_none rfl) rfl (sq_load_pa_o 0 (opens_int _) ti_2 rfl rfl) (fun _ => ?_)
  refine JP_take (i := 4) [0, 1, 2] [] rfl (by kernel_rfl) (by kernel_rfl) (by kernel_rfl) rfl rfl (wants_none rfl) rfl (ex_move rfl) ?_
  refine JP_take (i := 5) [0, 1, 2] [] rfl (by kernel_rfl) (by kernel_rfl) (by kernel_rfl) rfl rfl (wants_none rfl) rfl (ex_nilCheck_pa 2 rfl rfl) ?_
  refine JP_sq (i := 6) [] rfl (by kernel_rfl) (by kernel_rfl) (by kernel_rfl) rfl (wants_none rfl) rfl (sq_field_pa 2 (GMachine.at_States _) fi_35_1 rfl rfl rfl) (fun q3 => ?_)
  refine JP_sq (i := 7) [] rfl (by kernel_rfl) (by kernel_rfl) (by kernel_rfl) rfl (wants_none rfl) rfl (sq_load_pa_o 0 (opens_int _) ti_2 rfl rfl) (fun _ => ?_)
  refine JP_take (i := 8) [0, 1, 2, 3] [] rfl (by kernel_rfl) (by kernel_rfl) (by kernel_rfl) rfl rfl (wants_none rfl) rfl (ex_sub rfl rfl) ?_
  refine JP_go [0, 1, 2, 3] [] rfl rfl rfl (fun w6 h1_7 hp5 => ?_)
  refine JD_bnd fun r8 hr9 => ?_
  refine JD_one (i := 9) (by kernel_rfl) ?_
  refine JO_call rfl (wants_none rfl) rfl Try.call22 rfl (Ca_of0 fun w hh => c_spec_l00In _ w (fun _ hk => hk.elim) _ _ _ _ hr9) (fun _ => ?_)
  refine JD_take (i := 10) hp5 rfl (by kernel_rfl) (by kernel_rfl) (by kernel_rfl) (wants_none rfl) rfl (ex_move rfl) ?_
  refine JD_cond (fun h10 => ?_) (fun h10 => ?_)
  · refine JD_take (i := 11) hp5 rfl (by kernel_rfl) (by kernel_rfl) (by kernel_rfl) (wants_some rfl rfl rfl h10) rfl (ex_move rfl) ?_
    refine JD_take (i := 12) hp5 rfl (by kernel_rfl) (by kernel_rfl) (by kernel_rfl) (wants_some rfl rfl rfl h10) rfl (ex_move rfl) ?_
    refine JD_take (i := 13) hp5 rfl (by kernel_rfl) (by kernel_rfl) (by kernel_rfl) (wants_some rfl rfl rfl h10) rfl (ex_nilCheck_pa 2 rfl rfl) ?_
    refine JD_sq (i := 14) (fs := fun q11 => [.pa q11 p1.Left]) [] h1_7 rfl rfl (by kernel_rfl) (by kernel_rfl) (by kernel_rfl) (wants_some rfl rfl rfl h10) rfl (sq_field_pa 2 (GConfig.at_Left _) fi_37_1 rfl rfl rfl) (fun _ => rfl) (fun q11 h1_12 => ?_)
    refine JD_sq (i := 15) [] h1_12 rfl rfl (by kernel_rfl) (by kernel_rfl) (by kernel_rfl) (wants_some rfl rfl rfl h10) rfl (sq_load_pa_o 0 (opens_sl _) ti_25 rfl rfl) (fun _ => rfl) (fun v13 h1_14 => ?_)
    refine JD_bnd fun r15 hr16 => ?_
    refine JD_one (i := 16) (by kernel_rfl) ?_
    refine JO_call rfl (wants_some rfl rfl rfl h10) rfl Try.call47 rfl (Ca_of0 fun w hh => c_spec_l05Cells _ w (fun _ hk => hk.elim) _ _ (hh.pa0 5 rfl) _ _ (hh.rd0 0 rfl) _ hr16) (fun _ => ?_)
    refine JD_take (i := 17) hp5 rfl (by kernel_rfl) (by kernel_rfl) (by kernel_rfl) (wants_none rfl) rfl (ex_pick_true rfl h10 rfl) ?_
    refine JD_take (i := 18) hp5 rfl (by kernel_rfl) (by kernel_rfl) (by kernel_rfl) (wants_none rfl) rfl (ex_move rfl) ?_
    refine JD_cond (fun h17 => ?_) (fun h17 => ?_)
    · refine JD_take (i := 19) hp5 rfl (by kernel_rfl) (by kernel_rfl) (by kernel_rfl) (wants_some rfl rfl rfl h17) rfl (ex_move rfl) ?_
      refine JD_take (i := 20) hp5 rfl (by kernel_rfl) (by kernel_rfl) (by kernel_rfl) (wants_some rfl rfl rfl h17) rfl (ex_move rfl) ?_
      refine JD_take (i := 21) hp5 rfl (by kernel_rfl) (by kernel_rfl) (by kernel_rfl) (wants_some rfl rfl rfl h17) rfl (ex_nilCheck_pa 2 rfl rfl) ?_
      refine JD_sq (i := 22) (fs := fun q18 => [.pa q18 p1.Right]) [] h1_14 rfl rfl (by kernel_rfl) (by kernel_rfl) (by kernel_rfl) (wants_some rfl rfl rfl h17) rfl (sq_field_pa 4 (GConfig.at_Right _) fi_37_2 rfl rfl rfl) (fun _ => rfl) (fun q18 h1_19 => ?_)
      refine JD_sq (i := 23) [] h1_19 rfl rfl (by kernel_rfl) (by kernel_rfl) (by kernel_rfl) (wants_some rfl rfl rfl h17) rfl (sq_load_pa_o 0 (opens_sl _) ti_25 rfl rfl) (fun _ => rfl) (fun v20 h1_21 => ?_)
      refine JD_bnd fun r22 hr23 => ?_
      refine JD_one (i := 24) (by kernel_rfl) ?_
      refine JO_call rfl (wants_some rfl rfl rfl h17) rfl Try.call47 rfl (Ca_of0 fun w hh => c_spec_l05Cells _ w (fun _ hk => hk.elim) _ _ (hh.pa0 7 rfl) _ _ (hh.rd0 0 rfl) _ hr23) (fun _ => ?_)
      refine JD_take (i := 25) hp5 rfl (by kernel_rfl) (by kernel_rfl) (by kernel_rfl) (wants_none rfl) rfl (ex_pick_true rfl h17 rfl) ?_
      refine JD_take (i := 26) hp5 rfl (by kernel_rfl) (by kernel_rfl) (by kernel_rfl) (wants_none rfl) rfl (ex_assign rfl) ?_
      refine JD_done (by kernel_rfl) ?_
      refine N_then ?_
      refine J_ret ?_
      exact N_ret1 rfl (rv_tmp rfl) (fun w hh => ⟨(), rfl, hh.sel [] rfl⟩)
    · refine JD_pass (i := 19) rfl (by kernel_rfl) (by kernel_rfl) (by kernel_rfl) rfl rfl h17 rfl ?_
      refine JD_pass (i := 20) rfl (by kernel_rfl) (by kernel_rfl) (by kernel_rfl) rfl rfl h17 rfl ?_
      refine JD_pass (i := 21) rfl (by kernel_rfl) (by kernel_rfl) (by kernel_rfl) rfl rfl h17 rfl ?_
      refine JD_pass (i := 22) rfl (by kernel_rfl) (by kernel_rfl) (by kernel_rfl) rfl rfl h17 rfl ?_
      refine JD_pass (i := 23) rfl (by kernel_rfl) (by kernel_rfl) (by kernel_rfl) rfl rfl h17 rfl ?_
      refine JD_pass (i := 24) rfl (by kernel_rfl) (by kernel_rfl) (by kernel_rfl) rfl rfl h17 rfl ?_
      refine JD_take (i := 25) hp5 rfl (by kernel_rfl) (by kernel_rfl) (by kernel_rfl) (wants_none rfl) rfl (ex_pick_false rfl h17 rfl) ?_
      refine JD_take (i := 26) hp5 rfl (by kernel_rfl) (by kernel_rfl) (by kernel_rfl) (wants_none rfl) rfl (ex_assign rfl) ?_
      refine JD_done (by kernel_rfl) ?_
      refine N_then ?_
      refine J_ret ?_
      exact N_ret1 rfl (rv_tmp rfl) (fun w hh => ⟨(), rfl, hh.sel [] rfl⟩)
  · refine JD_pass (i := 11) rfl (by kernel_rfl) (by kernel_rfl) (by kernel_rfl) rfl rfl h10 rfl ?_
    refine JD_pass (i := 12) rfl (by kernel_rfl) (by kernel_rfl) (by kernel_rfl) rfl rfl h10 rfl ?_
    refine JD_pass (i := 13) rfl (by kernel_rfl) (by kernel_rfl) (by kernel_rfl) rfl rfl h10 rfl ?_
    refine JD_pass (i := 14) rfl (by kernel_rfl) (by kernel_rfl) (by kernel_rfl) rfl rfl h10 rfl ?_
    refine JD_pass (i := 15) rfl (by kernel_rfl) (by kernel_rfl) (by kernel_rfl) rfl rfl h10 rfl ?_
    refine JD_pass (i := 16) rfl (by kernel_rfl) (by kernel_rfl) (by kernel_rfl) rfl rfl h10 rfl ?_
    refine JD_take (i := 17) hp5 rfl (by kernel_rfl) (by kernel_rfl) (by kernel_rfl) (wants_none rfl) rfl (ex_pick_false rfl h10 rfl) ?_
    refine JD_take (i := 18) hp5 rfl (by kernel_rfl) (by kernel_rfl) (by kernel_rfl) (wants_none rfl) rfl (ex_move rfl) ?_
    refine JD_pass (i := 19) rfl (by kernel_rfl) (by kernel_rfl) (by kernel_rfl) rfl rfl rfl rfl ?_
    refine JD_pass (i := 20) rfl (by kernel_rfl) (by kernel_rfl) (by kernel_rfl) rfl rfl rfl rfl ?_
    refine JD_pass (i := 21) rfl (by kernel_rfl) (by kernel_rfl) (by kernel_rfl) rfl rfl rfl rfl ?_
    refine JD_pass (i := 22) rfl (by kernel_rfl) (by kernel_rfl) (by kernel_rfl) rfl rfl rfl rfl ?_
    refine JD_pass (i := 23) rfl (by kernel_rfl) (by kernel_rfl) (by kernel_rfl) rfl rfl rfl rfl ?_
    refine JD_pass (i := 24) rfl (by kernel_rfl) (by kernel_rfl) (by kernel_rfl) rfl rfl rfl rfl ?_
    refine JD_take (i := 25) hp5 rfl (by kernel_rfl) (by kernel_rfl) (by kernel_rfl) (wants_none rfl) rfl (ex_pick_false rfl rfl rfl) ?_
    refine JD_take (i := 26) hp5 rfl (by kernel_rfl) (by kernel_rfl) (by kernel_rfl) (wants_none rfl) rfl (ex_assign rfl) ?_
    refine JD_done (by kernel_rfl) ?_
    refine N_then ?_
    refine J_ret ?_
    exact N_ret1 rfl (rv_tmp rfl) (fun w hh => ⟨(), rfl, hh.sel [] rfl⟩)

set_option maxHeartbeats 40000000 in
theorem c_spec_l33Place (A : Nat → Prop) (w : World) (hA : ∀ k, A k → k < w.heap.size) (p0 : Int) (p1 : Int) (r : Bool) (hr : F_spec_l33Place p0 p1 = some r) :
    Con Try.prog 21 [.int .i64 p0, .int .i64 p1] A w (fun x_ : Unit => .bool r) (fun x_ => []) := by
  refine Con_of (v := fun (r : Bool) (x_ : Unit) => .bool r) (fs := fun r x_ => []) Try.func21 rfl Try.ntmps21 rfl (SH.start hA) rfl ?_ hr
  unfold F_spec_l33Place
  refine J_seq ?_
  refine J_region ?_
  refine JL_q (wants_none rfl) rfl (ex_assign rfl) ?_
  refine JL_nil ?_
  refine N_then ?_
  refine J_seq ?_
  refine J_region ?_
  refine JL_q (wants_none rfl) rfl (ex_move rfl) ?_
  refine JL_bnd fun r1 hr2 => ?_
  refine JL_call (wants_none rfl) rfl Try.call22 rfl (Ca_of0 fun w hh => c_spec_l00In _ w (fun _ hk => hk.elim) _ _ _ _ hr2) (fun _ => ?_)
  refine JL_q (wants_none rfl) rfl (ex_move rfl) ?_
  refine JL_cond (fun h3 => ?_) (fun h3 => ?_)
  · refine JL_q (wants_some rfl rfl rfl h3) rfl (ex_move rfl) ?_
    refine JL_q (wants_some rfl rfl rfl h3) rfl (ex_move rfl) ?_
    refine JL_q (wants_some rfl rfl rfl h3) rfl (ex_sub rfl rfl) ?_
    refine JL_bnd fun r4 hr5 => ?_
    refine JL_call (wants_some rfl rfl rfl h3) rfl Try.call22 rfl (Ca_of0 fun w hh => c_spec_l00In _ w (fun _ hk => hk.elim) _ _ _ _ hr5) (fun _ => ?_)
    refine JL_q (wants_none rfl) rfl (ex_pick_true rfl h3 rfl) ?_
    refine JL_q (wants_none rfl) rfl (ex_assign rfl) ?_
    refine JL_nil ?_
    refine N_then ?_
    refine J_ret ?_
    exact N_ret1 rfl (rv_tmp rfl) (fun w hh => ⟨(), rfl, hh.sel [] rfl⟩)
  · refine JL_passed rfl rfl rfl h3 ?_
    refine JL_passed rfl rfl rfl h3 ?_
    refine JL_passed rfl rfl rfl h3 ?_
    refine JL_passed rfl rfl rfl h3 ?_
    refine JL_q (wants_none rfl) rfl (ex_pick_false rfl h3 rfl) ?_
    refine JL_q (wants_none rfl) rfl (ex_assign rfl) ?_
    refine JL_nil ?_
    refine N_then ?_
    refine J_ret ?_
    exact N_ret1 rfl (rv_tmp rfl) (fun w hh => ⟨(), rfl, hh.sel [] rfl⟩)

set_option maxHeartbeats 40000000 in
theorem c_spec_l33Head (A : Nat → Prop) (w : World) (hA : ∀ k, A k → k < w.heap.size) (v0_ : Value) (p0 : GMachine) (hp0 : RdA A w.heap.size w v0_ p0) (p1 : Int) (p2 : Int) (r : Int) (hr : F_spec_l33Head p0 p1 p2 = some r) :
    Con Try.prog 49 [v0_, .int .i64 p1, .int .i64 p2] A w (fun x_ : Unit => .int .i64 r) (fun x_ => []) := by
  refine Con_of (v := fun (r : Int) (x_ : Unit) => .int .i64 r) (fs := fun r x_ => []) Try.func49 rfl Try.ntmps49 rfl ((SH.start hA).start_pa' rfl hp0) rfl ?_ hr
  unfold F_spec_l33Head
  refine J_seq ?_
  refine J_region ?_
  refine JL_q (wants_none rfl) rfl (ex_assign rfl) ?_
  refine JL_nil ?_
  refine N_then ?_
  refine J_seq ?_
  refine J_region ?_
  refine JL_q (wants_none rfl) rfl (ex_move rfl) ?_
  refine JL_q (wants_none rfl) rfl (ex_nilCheck_pa 0 rfl rfl) ?_
  refine JL_st (wants_none rfl) rfl (st_field_pa 0 (GMachine.at_Symbols _) fi_35_0 rfl rfl rfl) (fun q1 => ?_)
  refine JL_st (wants_none rfl) rfl (st_load_pa_o 0 (opens_int _) ti_2 rfl rfl) (fun _ => ?_)
  refine JL_q (wants_none rfl) rfl (ex_move rfl) ?_
  refine JL_q (wants_none rfl) rfl (ex_add rfl rfl) ?_
  refine JL_q (wants_none rfl) rfl (ex_mul rfl rfl) ?_
  refine JL_q (wants_none rfl) rfl (ex_move rfl) ?_
  refine JL_q (wants_none rfl) rfl (ex_add rfl rfl) ?_
  refine JL_q (wants_none rfl) rfl (ex_assign rfl) ?_
  refine JL_nil ?_
  refine N_then ?_
  refine J_ret ?_
  exact N_ret1 rfl (rv_tmp rfl) (fun w hh => ⟨(), rfl, hh.sel [] rfl⟩)

set_option maxHeartbeats 40000000 in
theorem c_spec_l33Tiles (A : Nat → Prop) (w : World) (hA : ∀ k, A k → k < w.heap.size) (v0_ : Value) (p0 : GMachine) (hp0 : RdA A w.heap.size w v0_ p0) (r : (List GTile) × Bool) (hr : F_spec_l33Tiles p0 = some r) :
    Con Try.prog 23 [v0_] A w (fun x_ : Value => .tuple #[x_, .bool r.2]) (fun x_ => [.ow 76 x_ r.1]) := by
  refine Con_of (v := fun (r : (List GTile) × Bool) (x_ : Value) => .tuple #[x_, .bool r.2]) (fs := fun r x_ => [.ow 76 x_ r.1]) Try.func23 rfl Try.ntmps23 rfl ((SH.start hA).start_pa' rfl hp0) rfl ?_ hr
  unfold F_spec_l33Tiles
  refine J_seq ?_
  refine J_region ?_
  refine JL_q (wants_none rfl) rfl (ex_assign rfl) ?_
  refine JL_q (wants_none rfl) rfl (ex_assign rfl) ?_
  refine JL_nil ?_
  refine N_then ?_
  refine J_seq ?_
  refine J_region ?_
  refine JL_st (wants_none rfl) rfl (st_buildSlice (vs := []) ([] : List GTile) Try.underlying54 ti_76 zi_76 rfl rfl rfl (fun w hh => trivial)) (fun b1 => ?_)
  refine JL_q (wants_none rfl) rfl (ex_assign rfl) ?_
  refine JL_nil ?_
  refine N_then ?_
  refine J_seq ?_
  refine J_seq ?_
  refine J_draw [] (by kernel_rfl) ?_
  refine JP_take (i := 0) [0, 1] [] rfl (by kernel_rfl) (by kernel_rfl) (by kernel_rfl) rfl rfl (wants_none rfl) rfl (ex_move rfl) ?_
  refine JP_take (i := 1) [0, 1] [] rfl (by kernel_rfl) (by kernel_rfl) (by kernel_rfl) rfl rfl (wants_none rfl) rfl (ex_nilCheck_pa 1 rfl rfl) ?_
  refine JP_sq (i := 2) [] rfl (by kernel_rfl) (by kernel_rfl) (by kernel_rfl) rfl (wants_none rfl) rfl (sq_field_pa 1 (GMachine.at_Symbols _) fi_35_0 rfl rfl rfl) (fun q2 => ?_)
  refine JP_sq (i := 3) [] rfl (by kernel_rfl) (by kernel_rfl) (by kernel_rfl) rfl (wants_none rfl) rfl (sq_load_pa_o 0 (opens_int _) ti_2 rfl rfl) (fun _ => ?_)
  refine JP_take (i := 4) [0, 1, 2] [] rfl (by kernel_rfl) (by kernel_rfl) (by kernel_rfl) rfl rfl (wants_none rfl) rfl (ex_mul rfl rfl) ?_
  refine JP_take (i := 5) [0, 1, 2] [] rfl (by kernel_rfl) (by kernel_rfl) (by kernel_rfl) rfl rfl (wants_none rfl) rfl (ex_move rfl) ?_
  refine JP_take (i := 6) [0, 1, 2] [] rfl (by kernel_rfl) (by kernel_rfl) (by kernel_rfl) rfl rfl (wants_none rfl) rfl (ex_nilCheck_pa 2 rfl rfl) ?_
  refine JP_sq (i := 7) [] rfl (by kernel_rfl) (by kernel_rfl) (by kernel_rfl) rfl (wants_none rfl) rfl (sq_field_pa 2 (GMachine.at_States _) fi_35_1 rfl rfl rfl) (fun q4 => ?_)
  refine JP_sq (i := 8) [] rfl (by kernel_rfl) (by kernel_rfl) (by kernel_rfl) rfl (wants_none rfl) rfl (sq_load_pa_o 0 (opens_int _) ti_2 rfl rfl) (fun _ => ?_)
  refine JP_take (i := 9) [0, 1, 2, 3] [] rfl (by kernel_rfl) (by kernel_rfl) (by kernel_rfl) rfl rfl (wants_none rfl) rfl (ex_mul rfl rfl) ?_
  refine JP_take (i := 10) [0, 1, 2, 3] [] rfl (by kernel_rfl) (by kernel_rfl) (by kernel_rfl) rfl rfl (wants_none rfl) rfl (ex_gtr rfl rfl) ?_
  refine JP_go [] [] rfl rfl rfl (fun _ _ _ => ?_)
  refine JD_done (by kernel_rfl) ?_
  refine N_then ?_
  refine J_if rfl (fun h6 => ?_) (fun h6 => ?_)
  · refine J_seq ?_
    refine J_region ?_
    refine JL_q (wants_none rfl) rfl (ex_move rfl) ?_
    refine JL_q (wants_none rfl) rfl (ex_assign rfl) ?_
    refine JL_q (wants_none rfl) rfl (ex_assign rfl) ?_
    refine JL_nil ?_
    refine N_then ?_
    refine J_ret ?_
    refine N_then_ret ?_
    exact N_ret2 rfl (rv_tmp rfl) (rv_tmp rfl) (fun w hh => ⟨(.slice (some ⟨b1, 0, none⟩) 0 0), rfl, hh.sel [2] rfl⟩)
  · refine J_skip ?_
    refine N_then ?_
    refine J_seq ?_
    refine J_seq ?_
    refine J_region ?_
    refine JL_q (wants_none rfl) rfl (ex_assign rfl) ?_
    refine JL_nil ?_
    refine N_then ?_
    refine J_loop' (S := (List GTile) × Int) (G := Value) (F_spec_l33Tiles_L1 p0) (fun s7 g8 => [(0, v0_), (4, g8), (5, .int .i64 s7.2)]) (fun s7 g8 => [.pa v0_ p0, .ow 76 g8 s7.1]) (([] : List GTile), 0) (.slice (some ⟨b1, 0, none⟩) 0 0) ⟨rfl, rfl, rfl, trivial⟩ [3, 2] rfl rfl (fun s7 g8 => ?_) (fun s7 g8 => ?_)
    · unfold F_spec_l33Tiles_L1
      refine J_seq ?_
      refine J_seq ?_
      refine J_region ?_
      refine JL_q (wants_none rfl) rfl (ex_move rfl) ?_
      refine JL_q (wants_none rfl) rfl (ex_move rfl) ?_
      refine JL_q (wants_none rfl) rfl (ex_nilCheck_pa 0 rfl rfl) ?_
      refine JL_st (wants_none rfl) rfl (st_field_pa 0 (GMachine.at_Symbols _) fi_35_0 rfl rfl rfl) (fun q9 => ?_)
      refine JL_st (wants_none rfl) rfl (st_load_pa_o 0 (opens_int _) ti_2 rfl rfl) (fun _ => ?_)
      refine JL_q (wants_none rfl) rfl (ex_lss rfl rfl) ?_
      refine JL_nil ?_
      refine N_then ?_
      refine J_if rfl (fun h11 => ?_) (fun h11 => ?_)
      · refine J_skip ?_
        refine N_then ?_
        refine J_seq ?_
        refine J_block ?_
        refine J_region ?_
        refine JL_q (wants_none rfl) rfl (ex_move rfl) ?_
        refine JL_q (wants_none rfl) rfl (ex_move rfl) ?_
        refine JL_q (wants_none rfl) rfl (ex_move rfl) ?_
        refine JL_q (wants_none rfl) rfl (ex_build si_76 rfl (.cons fi_76_1 rfl rfl (.cons fi_76_3 rfl rfl .nil)) (fun w hh => ⟨cv_int, cv_int, trivial⟩)) ?_
        refine JL_st (wants_none rfl) rfl (st_buildSlice (vs := [.agg #[.int .i64 0, .int .i64 s7.2, .int .i64 0, .int .i64 s7.2]]) ([(⟨0, s7.2, 0, s7.2⟩ : GTile)] : List GTile) Try.underlying54 ti_76 zi_76 rfl rfl rfl (fun w hh => ⟨(GTile.rdmk (Rd.mk_int _ _ _) (Rd.mk_int _ _ _) (Rd.mk_int _ _ _) (Rd.mk_int _ _ _)), trivial⟩)) (fun b12 => ?_)
        refine JL_bnd fun z13 hz14 => ?_
        refine JL_st (wants_none rfl) rfl (st_append 3 Try.underlying54 ti_76 zi_76 rfl bi_76 rfl rfl rfl rfl (fun w hh => hh.src_ow 0 rfl) hz14) (fun v15 => ?_)
        refine JL_q (wants_none rfl) rfl (ex_assign rfl) ?_
        refine JL_nil ?_
        refine N_block ?_
        refine N_then ?_
        refine J_region ?_
        refine JL_q (wants_none rfl) rfl (ex_move rfl) ?_
        refine JL_q (wants_none rfl) rfl (ex_add rfl rfl) ?_
        refine JL_q (wants_none rfl) rfl (ex_assign rfl) ?_
        refine JL_nil ?_
        exact N_next' v15 ⟨rfl, rfl, rfl, trivial⟩ [2, 3] rfl rfl
      · refine J_exit ?_
        refine N_then_exit ?_
        exact N_break' g8 ⟨rfl, rfl, rfl, trivial⟩ [1, 2] rfl rfl
    · refine N_then ?_
      refine J_seq ?_
      refine J_seq ?_
      refine J_region ?_
      refine JL_q (wants_none rfl) rfl (ex_assign rfl) ?_
      refine JL_nil ?_
      refine N_then ?_
      refine J_loop' (S := (List GTile) × Int) (G := Value) (F_spec_l33Tiles_L2 p0) (fun s16 g17 => [(0, v0_), (4, g17), (6, .int .i64 s16.2)]) (fun s16 g17 => [.pa v0_ p0, .ow 76 g17 s16.1]) (s7.1, 0) g8 ⟨rfl, rfl, rfl, trivial⟩ [0, 1] rfl rfl (fun s16 g17 => ?_) (fun s16 g17 => ?_)
      · unfold F_spec_l33Tiles_L2
        refine J_seq ?_
        refine J_seq ?_
        refine J_region ?_
        refine JL_q (wants_none rfl) rfl (ex_move rfl) ?_
        refine JL_q (wants_none rfl) rfl (ex_move rfl) ?_
        refine JL_q (wants_none rfl) rfl (ex_nilCheck_pa 0 rfl rfl) ?_
        refine JL_st (wants_none rfl) rfl (st_field_pa 0 (GMachine.at_States _) fi_35_1 rfl rfl rfl) (fun q18 => ?_)
        refine JL_st (wants_none rfl) rfl (st_load_pa_o 0 (opens_int _) ti_2 rfl rfl) (fun _ => ?_)
        refine JL_q (wants_none rfl) rfl (ex_lss rfl rfl) ?_
        refine JL_nil ?_
        refine N_then ?_
        refine J_if rfl (fun h20 => ?_) (fun h20 => ?_)
        · refine J_skip ?_
          refine N_then ?_
          refine J_seq ?_
          refine J_block ?_
          refine J_seq ?_
          refine J_region ?_
          refine JL_q (wants_none rfl) rfl (ex_assign rfl) ?_
          refine JL_nil ?_
          refine N_then ?_
          refine J_loop' (S := (List GTile) × Int) (G := Value) (F_spec_l33Tiles_L3 p0 s16) (fun s21 g22 => [(0, v0_), (4, g22), (6, .int .i64 s16.2), (7, .int .i64 s21.2)]) (fun s21 g22 => [.pa v0_ p0, .ow 76 g22 s21.1]) (s16.1, 0) g17 ⟨rfl, rfl, rfl, rfl, trivial⟩ [1, 2] rfl rfl (fun s21 g22 => ?_) (fun s21 g22 => ?_)
          · unfold F_spec_l33Tiles_L3
            refine J_seq ?_
            refine J_seq ?_
            refine J_region ?_
            refine JL_q (wants_none rfl) rfl (ex_move rfl) ?_
            refine JL_q (wants_none rfl) rfl (ex_move rfl) ?_
            refine JL_q (wants_none rfl) rfl (ex_nilCheck_pa 0 rfl rfl) ?_
            refine JL_st (wants_none rfl) rfl (st_field_pa 0 (GMachine.at_Symbols _) fi_35_0 rfl rfl rfl) (fun q23 => ?_)
            refine JL_st (wants_none rfl) rfl (st_load_pa_o 0 (opens_int _) ti_2 rfl rfl) (fun _ => ?_)
            refine JL_q (wants_none rfl) rfl (ex_lss rfl rfl) ?_
            refine JL_nil ?_
            refine N_then ?_
            refine J_if rfl (fun h25 => ?_) (fun h25 => ?_)
            · refine J_skip ?_
              refine N_then ?_
              refine J_seq ?_
              refine J_block ?_
              refine J_seq ?_
              refine J_draw [] (by kernel_rfl) ?_
              refine JP_take (i := 0) [0, 1, 2] [] rfl (by kernel_rfl) (by kernel_rfl) (by kernel_rfl) rfl rfl (wants_none rfl) rfl (ex_move rfl) ?_
              refine JP_take (i := 1) [0, 1, 2] [] rfl (by kernel_rfl) (by kernel_rfl) (by kernel_rfl) rfl rfl (wants_none rfl) rfl (ex_nilCheck_pa 1 rfl rfl) ?_
              refine JP_sq (i := 2) [] rfl (by kernel_rfl) (by kernel_rfl) (by kernel_rfl) rfl (wants_none rfl) rfl (sq_field_pa 1 (GMachine.at_Rules _) fi_35_2 rfl rfl rfl) (fun q26 => ?_)
              refine JP_sq (i := 3) [] rfl (by kernel_rfl) (by kernel_rfl) (by kernel_rfl) rfl (wants_none rfl) rfl (sq_load_pa_o 0 (opens_sl _) ti_33 rfl rfl) (fun v27 => ?_)
              refine JP_take (i := 4) [0, 1, 2, 3, 4] [] rfl (by kernel_rfl) (by kernel_rfl) (by kernel_rfl) rfl rfl (wants_none rfl) rfl (ex_move rfl) ?_
              refine JP_take (i := 5) [0, 1, 2, 3, 4] [] rfl (by kernel_rfl) (by kernel_rfl) (by kernel_rfl) rfl rfl (wants_none rfl) rfl (ex_move rfl) ?_
              refine JP_take (i := 6) [0, 1, 2, 3, 4] [] rfl (by kernel_rfl) (by kernel_rfl) (by kernel_rfl) rfl rfl (wants_none rfl) rfl (ex_nilCheck_pa 3 rfl rfl) ?_
              refine JP_sq (i := 7) [] rfl (by kernel_rfl) (by kernel_rfl) (by kernel_rfl) rfl (wants_none rfl) rfl (sq_field_pa 3 (GMachine.at_Symbols _) fi_35_0 rfl rfl rfl) (fun q28 => ?_)
              refine JP_sq (i := 8) [] rfl (by kernel_rfl) (by kernel_rfl) (by kernel_rfl) rfl (wants_none rfl) rfl (sq_load_pa_o 0 (opens_int _) ti_2 rfl rfl) (fun _ => ?_)
              refine JP_take (i := 9) [0, 1, 2, 3, 4, 5] [] rfl (by kernel_rfl) (by kernel_rfl) (by kernel_rfl) rfl rfl (wants_none rfl) rfl (ex_mul rfl rfl) ?_
              refine JP_take (i := 10) [0, 1, 2, 3, 4, 5] [] rfl (by kernel_rfl) (by kernel_rfl) (by kernel_rfl) rfl rfl (wants_none rfl) rfl (ex_move rfl) ?_
              refine JP_take (i := 11) [0, 1, 2, 3, 4, 5] [] rfl (by kernel_rfl) (by kernel_rfl) (by kernel_rfl) rfl rfl (wants_none rfl) rfl (ex_add rfl rfl) ?_
              refine JP_bnd fun y30 hy31 => ?_
              refine JP_sq (i := 12) [] rfl (by kernel_rfl) (by kernel_rfl) (by kernel_rfl) rfl (wants_none rfl) rfl (sq_index 1 Try.underlying33 ti_60 rfl rfl rfl hy31) (fun q32 => ?_)
              refine JP_sq (i := 13) [] rfl (by kernel_rfl) (by kernel_rfl) (by kernel_rfl) rfl (wants_none rfl) rfl (sq_load_pt_o 0 (GRule.opens _) ti_60 rfl rfl) (fun _ => ?_)
              refine JP_go [0, 1, 2, 3, 4, 5, 6] [] rfl rfl rfl (fun w35 h1_36 hp34 => ?_)
              refine JD_one (i := 14) (by kernel_rfl) ?_
              refine JO_st rfl (wants_none rfl) rfl (st_alloc zi_60 rfl) (fun _ hk => nomatch hk) (fun b37 => ?_)
              refine JD_one (i := 15) (by kernel_rfl) ?_
              refine JO_sk2 0 [] [0, 1, 2, 3, 4, 5, 6] [1, 2, 3, 4, 5, 6, 7] rfl rfl rfl rfl rfl rfl (wants_none rfl) (sk_store_bx' 0 ti_60 rfl rfl (fun w hh => (cv_aggs ⟨cv_int, cv_int, cv_int, trivial⟩)) rfl rfl rfl rfl) (fun _ hk => hk) ?_
              refine JD_done (by kernel_rfl) ?_
              refine N_then ?_
              refine J_seq ?_
              refine J_seq ?_
              refine J_draw [] (by kernel_rfl) ?_
              refine JP_take (i := 0) [0, 1, 2, 3, 4, 5, 6, 7] [] rfl (by kernel_rfl) (by kernel_rfl) (by kernel_rfl) rfl rfl (wants_none rfl) rfl (ex_load_bx_agg 0 ti_60 rfl rfl rfl rfl) ?_
              refine JP_go [0, 1, 2, 3, 4, 5, 6, 7] [] rfl rfl rfl (fun w39 h1_40 hp38 => ?_)
              refine JD_bnd fun r41 hr42 => ?_
              refine JD_one (i := 1) (by kernel_rfl) ?_
              refine JO_call rfl (wants_none rfl) rfl Try.call48 rfl (Ca_of0 fun w hh => c_spec_l05None _ w (fun _ hk => hk.elim)  _ hr42) (fun _ => ?_)
              refine JD_take (i := 2) hp38 rfl (by kernel_rfl) (by kernel_rfl) (by kernel_rfl) (wants_none rfl) rfl (ex_eql_seq_60 rfl rfl) ?_
              refine JD_done (by kernel_rfl) ?_
              refine N_then ?_
              refine J_if rfl (fun h43 => ?_) (fun h43 => ?_)
              · refine J_exit ?_
                refine N_then_exit ?_
                refine N_block_exit ?_
                refine N_then ?_
                refine J_region ?_
                refine JL_q (wants_none rfl) rfl (ex_move rfl) ?_
                refine JL_q (wants_none rfl) rfl (ex_add rfl rfl) ?_
                refine JL_q (wants_none rfl) rfl (ex_assign rfl) ?_
                refine JL_nil ?_
                exact N_next' g22 ⟨rfl, rfl, rfl, rfl, trivial⟩ [6, 7] rfl rfl
              · refine J_skip ?_
                refine N_then ?_
                refine J_seq ?_
                refine J_draw [] (by kernel_rfl) ?_
                refine JP_take (i := 0) [0, 1, 2, 3, 4, 5, 6, 7] [] rfl (by kernel_rfl) (by kernel_rfl) (by kernel_rfl) rfl rfl (wants_none rfl) rfl (ex_move rfl) ?_
                refine JP_take (i := 1) [0, 1, 2, 3, 4, 5, 6, 7] [] rfl (by kernel_rfl) (by kernel_rfl) (by kernel_rfl) rfl rfl (wants_none rfl) rfl (ex_move rfl) ?_
                refine JP_take (i := 2) [0, 1, 2, 3, 4, 5, 6, 7] [] rfl (by kernel_rfl) (by kernel_rfl) (by kernel_rfl) rfl rfl (wants_none rfl) rfl (ex_move rfl) ?_
                refine JP_take (i := 4) [0, 1, 2, 3, 4, 5, 6, 7] [] rfl (by kernel_rfl) (by kernel_rfl) (by kernel_rfl) rfl rfl (wants_none rfl) rfl (ex_fieldAddr fi_60_0 rfl rfl) ?_
                refine JP_take (i := 5) [0, 1, 2, 3, 4, 5, 6, 7] [] rfl (by kernel_rfl) (by kernel_rfl) (by kernel_rfl) rfl rfl (wants_none rfl) rfl (ex_load_bx 0 ti_2 rfl rfl rfl) ?_
                refine JP_go [0, 1, 2, 3, 4, 5, 6, 7] [] rfl rfl rfl (fun w45 h1_46 hp44 => ?_)
                refine JD_bnd fun r47 hr48 => ?_
                refine JD_two (i := 3) (j := 7) (by kernel_rfl) ?_ ?_
                · refine JO_call rfl (wants_none rfl) rfl Try.call49 rfl (Ca_of0 fun w hh => c_spec_l33Head _ w (fun _ hk => hk.elim) _ _ (hh.pa0 6 rfl) _ _ _ hr48) (fun _ => ?_)
                  refine JD_take (i := 6) hp44 rfl (by kernel_rfl) (by kernel_rfl) (by kernel_rfl) (wants_none rfl) rfl (ex_build si_76 rfl (.cons fi_76_1 rfl rfl (.cons fi_76_3 rfl rfl .nil)) (fun w hh => ⟨cv_int, cv_int, trivial⟩)) ?_
                  refine JD_one (i := 7) (by kernel_rfl) ?_
                  refine JO_st rfl (wants_none rfl) rfl (st_alloc zi_76 rfl) (fun _ hk => nomatch hk) (fun b49 => ?_)
                  refine JD_one (i := 8) (by kernel_rfl) ?_
                  refine JO_sk2 0 [] [0, 1, 2, 3, 4, 5, 6, 7] [1, 2, 3, 4, 5, 6, 7, 8] rfl rfl rfl rfl rfl rfl (wants_none rfl) (sk_store_bx' 0 ti_76 rfl rfl (fun w hh => (cv_aggs ⟨cv_int, cv_int, cv_int, cv_int, trivial⟩)) rfl rfl rfl rfl) (fun _ hk => hk) ?_
                  refine JD_done (by kernel_rfl) ?_
                  refine N_then ?_
                  refine J_seq ?_
                  refine J_seq ?_
                  refine J_region ?_
                  refine JL_q (wants_none rfl) rfl (ex_fieldAddr fi_60_1 rfl rfl) ?_
                  refine JL_q (wants_none rfl) rfl (ex_load_bx 1 ti_2 rfl rfl rfl) ?_
                  refine JL_q (wants_none rfl) rfl (ex_gtr rfl rfl) ?_
                  refine JL_nil ?_
                  refine N_then ?_
                  refine J_if rfl (fun h50 => ?_) (fun h50 => ?_)
                  · refine J_region ?_
                    refine JL_q (wants_none rfl) rfl (ex_fieldAddr fi_60_2 rfl rfl) ?_
                    refine JL_q (wants_none rfl) rfl (ex_load_bx 1 ti_2 rfl rfl rfl) ?_
                    refine JL_q (wants_none rfl) rfl (ex_mul rfl rfl) ?_
                    refine JL_q (wants_none rfl) rfl (ex_add rfl rfl) ?_
                    refine JL_q (wants_none rfl) rfl (ex_fieldAddr fi_76_2 rfl rfl) ?_
                    refine JL_sk (wants_none rfl) (sk_store_bx' 0 ti_2 rfl rfl (fun w hh => cv_int) rfl rfl rfl rfl) ?_
                    refine JL_nil ?_
                    refine N_then ?_
                    refine J_region ?_
                    refine JL_q (wants_none rfl) rfl (ex_move rfl) ?_
                    refine JL_q (wants_none rfl) rfl (ex_load_bx_agg 0 ti_76 rfl rfl rfl rfl) ?_
                    refine JL_st (wants_none rfl) rfl (st_buildSlice (vs := [.agg #[.int .i64 0, .int .i64 r47, .int .i64 (w64 (1 + (w64 (2 * y30.Next)))), .int .i64 y30.Write]]) ([(⟨0, r47, (w64 (1 + (w64 (2 * y30.Next)))), y30.Write⟩ : GTile)] : List GTile) Try.underlying54 ti_76 zi_76 rfl rfl rfl (fun w hh => ⟨(GTile.rdmk (Rd.mk_int _ _ _) (Rd.mk_int _ _ _) (Rd.mk_int _ _ _) (Rd.mk_int _ _ _)), trivial⟩)) (fun b51 => ?_)
                    refine JL_bnd fun z52 hz53 => ?_
                    refine JL_st (wants_none rfl) rfl (st_append 9 Try.underlying54 ti_76 zi_76 rfl bi_76 rfl rfl rfl rfl (fun w hh => hh.src_ow 0 rfl) hz53) (fun v54 => ?_)
                    refine JL_q (wants_none rfl) rfl (ex_assign rfl) ?_
                    refine JL_nil ?_
                    refine N_block ?_
                    refine N_then ?_
                    refine J_region ?_
                    refine JL_q (wants_none rfl) rfl (ex_move rfl) ?_
                    refine JL_q (wants_none rfl) rfl (ex_add rfl rfl) ?_
                    refine JL_q (wants_none rfl) rfl (ex_assign rfl) ?_
                    refine JL_nil ?_
                    exact N_next' v54 ⟨rfl, rfl, rfl, rfl, trivial⟩ [8, 9] rfl rfl
                  · refine J_region ?_
                    refine JL_q (wants_none rfl) rfl (ex_fieldAddr fi_60_2 rfl rfl) ?_
                    refine JL_q (wants_none rfl) rfl (ex_load_bx 1 ti_2 rfl rfl rfl) ?_
                    refine JL_q (wants_none rfl) rfl (ex_mul rfl rfl) ?_
                    refine JL_q (wants_none rfl) rfl (ex_add rfl rfl) ?_
                    refine JL_q (wants_none rfl) rfl (ex_fieldAddr fi_76_0 rfl rfl) ?_
                    refine JL_sk (wants_none rfl) (sk_store_bx' 0 ti_2 rfl rfl (fun w hh => cv_int) rfl rfl rfl rfl) ?_
                    refine JL_nil ?_
                    refine N_then ?_
                    refine J_region ?_
                    refine JL_q (wants_none rfl) rfl (ex_move rfl) ?_
                    refine JL_q (wants_none rfl) rfl (ex_load_bx_agg 0 ti_76 rfl rfl rfl rfl) ?_
                    refine JL_st (wants_none rfl) rfl (st_buildSlice (vs := [.agg #[.int .i64 (w64 (2 + (w64 (2 * y30.Next)))), .int .i64 r47, .int .i64 0, .int .i64 y30.Write]]) ([(⟨(w64 (2 + (w64 (2 * y30.Next)))), r47, 0, y30.Write⟩ : GTile)] : List GTile) Try.underlying54 ti_76 zi_76 rfl rfl rfl (fun w hh => ⟨(GTile.rdmk (Rd.mk_int _ _ _) (Rd.mk_int _ _ _) (Rd.mk_int _ _ _) (Rd.mk_int _ _ _)), trivial⟩)) (fun b55 => ?_)
                    refine JL_bnd fun z56 hz57 => ?_
                    refine JL_st (wants_none rfl) rfl (st_append 9 Try.underlying54 ti_76 zi_76 rfl bi_76 rfl rfl rfl rfl (fun w hh => hh.src_ow 0 rfl) hz57) (fun v58 => ?_)
                    refine JL_q (wants_none rfl) rfl (ex_assign rfl) ?_
                    refine JL_nil ?_
                    refine N_block ?_
                    refine N_then ?_
                    refine J_region ?_
                    refine JL_q (wants_none rfl) rfl (ex_move rfl) ?_
                    refine JL_q (wants_none rfl) rfl (ex_add rfl rfl) ?_
                    refine JL_q (wants_none rfl) rfl (ex_assign rfl) ?_
                    refine JL_nil ?_
                    exact N_next' v58 ⟨rfl, rfl, rfl, rfl, trivial⟩ [8, 9] rfl rfl
                · refine JO_st rfl (wants_none rfl) rfl (st_alloc zi_76 rfl) (fun _ hk => nomatch hk) (fun b59 => ?_)
                  refine JD_one (i := 3) (by kernel_rfl) ?_
                  refine JO_call rfl (wants_none rfl) rfl Try.call49 rfl (Ca_of0 fun w hh => c_spec_l33Head _ w (fun _ hk => hk.elim) _ _ (hh.pa0 7 rfl) _ _ _ hr48) (fun _ => ?_)
                  refine JD_take (i := 6) hp44 rfl (by kernel_rfl) (by kernel_rfl) (by kernel_rfl) (wants_none rfl) rfl (ex_build si_76 rfl (.cons fi_76_1 rfl rfl (.cons fi_76_3 rfl rfl .nil)) (fun w hh => ⟨cv_int, cv_int, trivial⟩)) ?_
                  refine JD_one (i := 8) (by kernel_rfl) ?_
                  refine JO_sk2 0 [] [0, 1, 2, 3, 4, 5, 6, 7] [1, 2, 3, 4, 5, 6, 7, 8] rfl rfl rfl rfl rfl rfl (wants_none rfl) (sk_store_bx' 0 ti_76 rfl rfl (fun w hh => (cv_aggs ⟨cv_int, cv_int, cv_int, cv_int, trivial⟩)) rfl rfl rfl rfl) (fun _ hk => hk) ?_
                  refine JD_done (by kernel_rfl) ?_
                  refine N_then ?_
                  refine J_seq ?_
                  refine J_seq ?_
                  refine J_region ?_
                  refine JL_q (wants_none rfl) rfl (ex_fieldAddr fi_60_1 rfl rfl) ?_
                  refine JL_q (wants_none rfl) rfl (ex_load_bx 1 ti_2 rfl rfl rfl) ?_
                  refine JL_q (wants_none rfl) rfl (ex_gtr rfl rfl) ?_
                  refine JL_nil ?_
                  refine N_then ?_
                  refine J_if rfl (fun h60 => ?_) (fun h60 => ?_)
                  · refine J_region ?_
                    refine JL_q (wants_none rfl) rfl (ex_fieldAddr fi_60_2 rfl rfl) ?_
                    refine JL_q (wants_none rfl) rfl (ex_load_bx 1 ti_2 rfl rfl rfl) ?_
                    refine JL_q (wants_none rfl) rfl (ex_mul rfl rfl) ?_
                    refine JL_q (wants_none rfl) rfl (ex_add rfl rfl) ?_
                    refine JL_q (wants_none rfl) rfl (ex_fieldAddr fi_76_2 rfl rfl) ?_
                    refine JL_sk (wants_none rfl) (sk_store_bx' 0 ti_2 rfl rfl (fun w hh => cv_int) rfl rfl rfl rfl) ?_
                    refine JL_nil ?_
                    refine N_then ?_
                    refine J_region ?_
                    refine JL_q (wants_none rfl) rfl (ex_move rfl) ?_
                    refine JL_q (wants_none rfl) rfl (ex_load_bx_agg 0 ti_76 rfl rfl rfl rfl) ?_
                    refine JL_st (wants_none rfl) rfl (st_buildSlice (vs := [.agg #[.int .i64 0, .int .i64 r47, .int .i64 (w64 (1 + (w64 (2 * y30.Next)))), .int .i64 y30.Write]]) ([(⟨0, r47, (w64 (1 + (w64 (2 * y30.Next)))), y30.Write⟩ : GTile)] : List GTile) Try.underlying54 ti_76 zi_76 rfl rfl rfl (fun w hh => ⟨(GTile.rdmk (Rd.mk_int _ _ _) (Rd.mk_int _ _ _) (Rd.mk_int _ _ _) (Rd.mk_int _ _ _)), trivial⟩)) (fun b61 => ?_)
                    refine JL_bnd fun z62 hz63 => ?_
                    refine JL_st (wants_none rfl) rfl (st_append 9 Try.underlying54 ti_76 zi_76 rfl bi_76 rfl rfl rfl rfl (fun w hh => hh.src_ow 0 rfl) hz63) (fun v64 => ?_)
                    refine JL_q (wants_none rfl) rfl (ex_assign rfl) ?_
                    refine JL_nil ?_
                    refine N_block ?_
                    refine N_then ?_
                    refine J_region ?_
                    refine JL_q (wants_none rfl) rfl (ex_move rfl) ?_
                    refine JL_q (wants_none rfl) rfl (ex_add rfl rfl) ?_
                    refine JL_q (wants_none rfl) rfl (ex_assign rfl) ?_
                    refine JL_nil ?_
                    exact N_next' v64 ⟨rfl, rfl, rfl, rfl, trivial⟩ [8, 9] rfl rfl
                  · refine J_region ?_
                    refine JL_q (wants_none rfl) rfl (ex_fieldAddr fi_60_2 rfl rfl) ?_
                    refine JL_q (wants_none rfl) rfl (ex_load_bx 1 ti_2 rfl rfl rfl) ?_
                    refine JL_q (wants_none rfl) rfl (ex_mul rfl rfl) ?_
                    refine JL_q (wants_none rfl) rfl (ex_add rfl rfl) ?_
                    refine JL_q (wants_none rfl) rfl (ex_fieldAddr fi_76_0 rfl rfl) ?_
                    refine JL_sk (wants_none rfl) (sk_store_bx' 0 ti_2 rfl rfl (fun w hh => cv_int) rfl rfl rfl rfl) ?_
                    refine JL_nil ?_
                    refine N_then ?_
                    refine J_region ?_
                    refine JL_q (wants_none rfl) rfl (ex_move rfl) ?_
                    refine JL_q (wants_none rfl) rfl (ex_load_bx_agg 0 ti_76 rfl rfl rfl rfl) ?_
                    refine JL_st (wants_none rfl) rfl (st_buildSlice (vs := [.agg #[.int .i64 (w64 (2 + (w64 (2 * y30.Next)))), .int .i64 r47, .int .i64 0, .int .i64 y30.Write]]) ([(⟨(w64 (2 + (w64 (2 * y30.Next)))), r47, 0, y30.Write⟩ : GTile)] : List GTile) Try.underlying54 ti_76 zi_76 rfl rfl rfl (fun w hh => ⟨(GTile.rdmk (Rd.mk_int _ _ _) (Rd.mk_int _ _ _) (Rd.mk_int _ _ _) (Rd.mk_int _ _ _)), trivial⟩)) (fun b65 => ?_)
                    refine JL_bnd fun z66 hz67 => ?_
                    refine JL_st (wants_none rfl) rfl (st_append 9 Try.underlying54 ti_76 zi_76 rfl bi_76 rfl rfl rfl rfl (fun w hh => hh.src_ow 0 rfl) hz67) (fun v68 => ?_)
                    refine JL_q (wants_none rfl) rfl (ex_assign rfl) ?_
                    refine JL_nil ?_
                    refine N_block ?_
                    refine N_then ?_
                    refine J_region ?_
                    refine JL_q (wants_none rfl) rfl (ex_move rfl) ?_
                    refine JL_q (wants_none rfl) rfl (ex_add rfl rfl) ?_
                    refine JL_q (wants_none rfl) rfl (ex_assign rfl) ?_
                    refine JL_nil ?_
                    exact N_next' v68 ⟨rfl, rfl, rfl, rfl, trivial⟩ [8, 9] rfl rfl
            · refine J_exit ?_
              refine N_then_exit ?_
              exact N_break' g22 ⟨rfl, rfl, rfl, rfl, trivial⟩ [1, 2] rfl rfl
          · refine N_block ?_
            refine N_then ?_
            refine J_region ?_
            refine JL_q (wants_none rfl) rfl (ex_move rfl) ?_
            refine JL_q (wants_none rfl) rfl (ex_add rfl rfl) ?_
            refine JL_q (wants_none rfl) rfl (ex_assign rfl) ?_
            refine JL_nil ?_
            exact N_next' g22 ⟨rfl, rfl, rfl, trivial⟩ [0, 1] rfl rfl
        · refine J_exit ?_
          refine N_then_exit ?_
          exact N_break' g17 ⟨rfl, rfl, rfl, trivial⟩ [1, 2] rfl rfl
      · refine N_then ?_
        refine J_seq ?_
        refine J_seq ?_
        refine J_region ?_
        refine JL_q (wants_none rfl) rfl (ex_assign rfl) ?_
        refine JL_nil ?_
        refine N_then ?_
        refine J_loop' (S := (List GTile) × Int) (G := Value) (F_spec_l33Tiles_L4 p0) (fun s69 g70 => [(0, v0_), (4, g70), (10, .int .i64 s69.2)]) (fun s69 g70 => [.pa v0_ p0, .ow 76 g70 s69.1]) (s16.1, 0) g17 ⟨rfl, rfl, rfl, trivial⟩ [0, 1] rfl rfl (fun s69 g70 => ?_) (fun s69 g70 => ?_)
        · unfold F_spec_l33Tiles_L4
          refine J_seq ?_
          refine J_seq ?_
          refine J_region ?_
          refine JL_q (wants_none rfl) rfl (ex_move rfl) ?_
          refine JL_q (wants_none rfl) rfl (ex_move rfl) ?_
          refine JL_q (wants_none rfl) rfl (ex_nilCheck_pa 0 rfl rfl) ?_
          refine JL_st (wants_none rfl) rfl (st_field_pa 0 (GMachine.at_States _) fi_35_1 rfl rfl rfl) (fun q71 => ?_)
          refine JL_st (wants_none rfl) rfl (st_load_pa_o 0 (opens_int _) ti_2 rfl rfl) (fun _ => ?_)
          refine JL_q (wants_none rfl) rfl (ex_lss rfl rfl) ?_
          refine JL_nil ?_
          refine N_then ?_
          refine J_if rfl (fun h73 => ?_) (fun h73 => ?_)
          · refine J_skip ?_
            refine N_then ?_
            refine J_seq ?_
            refine J_block ?_
            refine J_seq ?_
            refine J_region ?_
            refine JL_q (wants_none rfl) rfl (ex_assign rfl) ?_
            refine JL_nil ?_
            refine N_then ?_
            refine J_loop' (S := (List GTile) × Int) (G := Value) (F_spec_l33Tiles_L5 p0 s69) (fun s74 g75 => [(0, v0_), (4, g75), (10, .int .i64 s69.2), (11, .int .i64 s74.2)]) (fun s74 g75 => [.pa v0_ p0, .ow 76 g75 s74.1]) (s69.1, 0) g70 ⟨rfl, rfl, rfl, rfl, trivial⟩ [1, 2] rfl rfl (fun s74 g75 => ?_) (fun s74 g75 => ?_)
            · unfold F_spec_l33Tiles_L5
              refine J_seq ?_
              refine J_seq ?_
              refine J_region ?_
              refine JL_q (wants_none rfl) rfl (ex_move rfl) ?_
              refine JL_q (wants_none rfl) rfl (ex_move rfl) ?_
              refine JL_q (wants_none rfl) rfl (ex_nilCheck_pa 0 rfl rfl) ?_
              refine JL_st (wants_none rfl) rfl (st_field_pa 0 (GMachine.at_Symbols _) fi_35_0 rfl rfl rfl) (fun q76 => ?_)
              refine JL_st (wants_none rfl) rfl (st_load_pa_o 0 (opens_int _) ti_2 rfl rfl) (fun _ => ?_)
              refine JL_q (wants_none rfl) rfl (ex_lss rfl rfl) ?_
              refine JL_nil ?_
              refine N_then ?_
              refine J_if rfl (fun h78 => ?_) (fun h78 => ?_)
              · refine J_skip ?_
                refine N_then ?_
                refine J_seq ?_
                refine J_block ?_
                refine J_seq ?_
                refine J_region ?_
                refine JL_q (wants_none rfl) rfl (ex_move rfl) ?_
                refine JL_q (wants_none rfl) rfl (ex_move rfl) ?_
                refine JL_q (wants_none rfl) rfl (ex_move rfl) ?_
                refine JL_bnd fun r79 hr80 => ?_
                refine JL_call (wants_none rfl) rfl Try.call49 rfl (Ca_of0 fun w hh => c_spec_l33Head _ w (fun _ hk => hk.elim) _ _ (hh.pa0 1 rfl) _ _ _ hr80) (fun _ => ?_)
                refine JL_q (wants_none rfl) rfl (ex_assign rfl) ?_
                refine JL_nil ?_
                refine N_then ?_
                refine J_region ?_
                refine JL_q (wants_none rfl) rfl (ex_move rfl) ?_
                refine JL_q (wants_none rfl) rfl (ex_move rfl) ?_
                refine JL_q (wants_none rfl) rfl (ex_mul rfl rfl) ?_
                refine JL_q (wants_none rfl) rfl (ex_add rfl rfl) ?_
                refine JL_q (wants_none rfl) rfl (ex_move rfl) ?_
                refine JL_q (wants_none rfl) rfl (ex_move rfl) ?_
                refine JL_q (wants_none rfl) rfl (ex_build si_76 rfl (.cons fi_76_0 rfl rfl (.cons fi_76_1 rfl rfl (.cons fi_76_3 rfl rfl .nil))) (fun w hh => ⟨cv_int, cv_int, cv_int, trivial⟩)) ?_
                refine JL_q (wants_none rfl) rfl (ex_move rfl) ?_
                refine JL_q (wants_none rfl) rfl (ex_move rfl) ?_
                refine JL_q (wants_none rfl) rfl (ex_mul rfl rfl) ?_
                refine JL_q (wants_none rfl) rfl (ex_add rfl rfl) ?_
                refine JL_q (wants_none rfl) rfl (ex_move rfl) ?_
                refine JL_q (wants_none rfl) rfl (ex_build si_76 rfl (.cons fi_76_1 rfl rfl (.cons fi_76_2 rfl rfl (.cons fi_76_3 rfl rfl .nil))) (fun w hh => ⟨cv_int, cv_int, cv_int, trivial⟩)) ?_
                refine JL_st (wants_none rfl) rfl (st_buildSlice (vs := [.agg #[.int .i64 (w64 (1 + (w64 (2 * s69.2)))), .int .i64 s74.2, .int .i64 0, .int .i64 r79], .agg #[.int .i64 0, .int .i64 s74.2, .int .i64 (w64 (2 + (w64 (2 * s69.2)))), .int .i64 r79]]) ([(⟨(w64 (1 + (w64 (2 * s69.2)))), s74.2, 0, r79⟩ : GTile), (⟨0, s74.2, (w64 (2 + (w64 (2 * s69.2)))), r79⟩ : GTile)] : List GTile) Try.underlying54 ti_76 zi_76 rfl rfl rfl (fun w hh => ⟨(GTile.rdmk (Rd.mk_int _ _ _) (Rd.mk_int _ _ _) (Rd.mk_int _ _ _) (Rd.mk_int _ _ _)), (GTile.rdmk (Rd.mk_int _ _ _) (Rd.mk_int _ _ _) (Rd.mk_int _ _ _) (Rd.mk_int _ _ _)), trivial⟩)) (fun b81 => ?_)
                refine JL_bnd fun z82 hz83 => ?_
                refine JL_st (wants_none rfl) rfl (st_append 3 Try.underlying54 ti_76 zi_76 rfl bi_76 rfl rfl rfl rfl (fun w hh => hh.src_ow 0 rfl) hz83) (fun v84 => ?_)
                refine JL_q (wants_none rfl) rfl (ex_assign rfl) ?_
                refine JL_nil ?_
                refine N_block ?_
                refine N_then ?_
                refine J_region ?_
                refine JL_q (wants_none rfl) rfl (ex_move rfl) ?_
                refine JL_q (wants_none rfl) rfl (ex_add rfl rfl) ?_
                refine JL_q (wants_none rfl) rfl (ex_assign rfl) ?_
                refine JL_nil ?_
                exact N_next' v84 ⟨rfl, rfl, rfl, rfl, trivial⟩ [2, 3] rfl rfl
              · refine J_exit ?_
                refine N_then_exit ?_
                exact N_break' g75 ⟨rfl, rfl, rfl, rfl, trivial⟩ [1, 2] rfl rfl
            · refine N_block ?_
              refine N_then ?_
              refine J_region ?_
              refine JL_q (wants_none rfl) rfl (ex_move rfl) ?_
              refine JL_q (wants_none rfl) rfl (ex_add rfl rfl) ?_
              refine JL_q (wants_none rfl) rfl (ex_assign rfl) ?_
              refine JL_nil ?_
              exact N_next' g75 ⟨rfl, rfl, rfl, trivial⟩ [0, 1] rfl rfl
          · refine J_exit ?_
            refine N_then_exit ?_
            exact N_break' g70 ⟨rfl, rfl, rfl, trivial⟩ [1, 2] rfl rfl
        · refine N_then ?_
          refine J_seq ?_
          refine J_region ?_
          refine JL_q (wants_none rfl) rfl (ex_move rfl) ?_
          refine JL_q (wants_none rfl) rfl (ex_move rfl) ?_
          refine JL_q (wants_none rfl) rfl (ex_len_ow 1 Try.underlying54 rfl rfl) ?_
          refine JL_q (wants_none rfl) rfl (ex_leq rfl rfl) ?_
          refine JL_q (wants_none rfl) rfl (ex_assign rfl) ?_
          refine JL_q (wants_none rfl) rfl (ex_assign rfl) ?_
          refine JL_nil ?_
          refine N_then ?_
          refine J_ret ?_
          exact N_ret2 rfl (rv_tmp rfl) (rv_tmp rfl) (fun w hh => ⟨g70, rfl, hh.sel [1] rfl⟩)

set_option maxHeartbeats 40000000 in
theorem c_spec_l13Cell (A : Nat → Prop) (w : World) (hA : ∀ k, A k → k < w.heap.size) (v0_ : Value) (p0 : (List Int)) (hp0 : Rd A w v0_ p0) (p1 : Int) (r : Int) (hr : F_spec_l13Cell p0 p1 = some r) :
    Con Try.prog 53 [v0_, .int .i64 p1] A w (fun x_ : Unit => .int .i64 r) (fun x_ => []) := by
  refine Con_of (v := fun (r : Int) (x_ : Unit) => .int .i64 r) (fs := fun r x_ => []) Try.func53 rfl Try.ntmps53 rfl ((SH.start hA).start_rd rfl hp0) rfl ?_ hr
  unfold F_spec_l13Cell
  refine J_seq ?_
  refine J_region ?_
  refine JL_q (wants_none rfl) rfl (ex_assign rfl) ?_
  refine JL_nil ?_
  refine N_then ?_
  refine J_seq ?_
  refine J_seq ?_
  refine J_region ?_
  refine JL_q (wants_none rfl) rfl (ex_move rfl) ?_
  refine JL_q (wants_none rfl) rfl (ex_move rfl) ?_
  refine JL_q (wants_none rfl) rfl (ex_len_rd 0 Try.underlying25 rfl rfl) ?_
  refine JL_q (wants_none rfl) rfl (ex_lss rfl rfl) ?_
  refine JL_nil ?_
  refine N_then ?_
  refine J_if rfl (fun h1 => ?_) (fun h1 => ?_)
  · refine J_seq ?_
    refine J_region ?_
    refine JL_q (wants_none rfl) rfl (ex_move rfl) ?_
    refine JL_q (wants_none rfl) rfl (ex_move rfl) ?_
    refine JL_bnd fun y2 hy3 => ?_
    refine JL_st (wants_none rfl) rfl (st_index 0 Try.underlying25 ti_2 rfl rfl rfl hy3) (fun q4 => ?_)
    refine JL_st (wants_none rfl) rfl (st_load_pt_o 0 (opens_int _) ti_2 rfl rfl) (fun _ => ?_)
    refine JL_q (wants_none rfl) rfl (ex_assign rfl) ?_
    refine JL_nil ?_
    refine N_then ?_
    refine J_ret ?_
    refine N_then_ret ?_
    exact N_ret1 rfl (rv_tmp rfl) (fun w hh => ⟨(), rfl, hh.sel [] rfl⟩)
  · refine J_skip ?_
    refine N_then ?_
    refine J_seq ?_
    refine J_region ?_
    refine JL_q (wants_none rfl) rfl (ex_assign rfl) ?_
    refine JL_nil ?_
    refine N_then ?_
    refine J_ret ?_
    exact N_ret1 rfl (rv_tmp rfl) (fun w hh => ⟨(), rfl, hh.sel [] rfl⟩)

set_option maxHeartbeats 40000000 in
theorem c_spec_l33Colors (A : Nat → Prop) (w : World) (hA : ∀ k, A k → k < w.heap.size) (v0_ : Value) (p0 : GMachine) (hp0 : RdA A w.heap.size w v0_ p0) (v1_ : Value) (p1 : GConfig) (hp1 : RdA A w.heap.size w v1_ p1) (p2 : Int) (p3 : Int) (r : (List Int) × Bool) (hr : F_spec_l33Colors p0 p1 p2 p3 = some r) :
    Con Try.prog 28 [v0_, v1_, .int .i64 p2, .int .i64 p3] A w (fun x_ : Value => .tuple #[x_, .bool r.2]) (fun x_ => [.ow 2 x_ r.1]) := by
  refine Con_of (v := fun (r : (List Int) × Bool) (x_ : Value) => .tuple #[x_, .bool r.2]) (fs := fun r x_ => [.ow 2 x_ r.1]) Try.func28 rfl Try.ntmps28 rfl (((SH.start hA).start_pa' rfl hp0).start_pa' rfl hp1) rfl ?_ hr
  unfold F_spec_l33Colors
  refine J_seq ?_
  refine J_region ?_
  refine JL_q (wants_none rfl) rfl (ex_assign rfl) ?_
  refine JL_q (wants_none rfl) rfl (ex_assign rfl) ?_
  refine JL_nil ?_
  refine N_then ?_
  refine J_seq ?_
  refine J_region ?_
  refine JL_st (wants_none rfl) rfl (st_buildSlice (vs := []) ([] : List Int) Try.underlying25 ti_2 zi_2 rfl rfl rfl (fun w hh => trivial)) (fun b1 => ?_)
  refine JL_q (wants_none rfl) rfl (ex_assign rfl) ?_
  refine JL_nil ?_
  refine N_then ?_
  refine J_seq ?_
  refine J_seq ?_
  refine J_region ?_
  refine JL_q (wants_none rfl) rfl (ex_assign rfl) ?_
  refine JL_nil ?_
  refine N_then ?_
  refine J_loop' (S := (List Int) × Int) (G := Value) (F_spec_l33Colors_L1 p1 p2 p3) (fun s2 g3 => [(0, v0_), (1, v1_), (2, .int .i64 p2), (3, .int .i64 p3), (10, g3), (11, .int .i64 s2.2)]) (fun s2 g3 => [.pa v0_ p0, .pa v1_ p1, .ow 2 g3 s2.1]) (([] : List Int), 0) (.slice (some ⟨b1, 0, none⟩) 0 0) ⟨rfl, rfl, rfl, rfl, rfl, rfl, trivial⟩ [2, 1, 0] rfl rfl (fun s2 g3 => ?_) (fun s2 g3 => ?_)
  · unfold F_spec_l33Colors_L1
    refine J_seq ?_
    refine J_seq ?_
    refine J_region ?_
    refine JL_q (wants_none rfl) rfl (ex_move rfl) ?_
    refine JL_q (wants_none rfl) rfl (ex_move rfl) ?_
    refine JL_q (wants_none rfl) rfl (ex_lss rfl rfl) ?_
    refine JL_nil ?_
    refine N_then ?_
    refine J_if rfl (fun h4 => ?_) (fun h4 => ?_)
    · refine J_skip ?_
      refine N_then ?_
      refine J_seq ?_
      refine J_block ?_
      refine J_seq ?_
      refine J_region ?_
      refine JL_q (wants_none rfl) rfl (ex_move rfl) ?_
      refine JL_q (wants_none rfl) rfl (ex_move rfl) ?_
      refine JL_q (wants_none rfl) rfl (ex_lss rfl rfl) ?_
      refine JL_nil ?_
      refine N_then ?_
      refine J_if rfl (fun h5 => ?_) (fun h5 => ?_)
      · refine J_region ?_
        refine JL_q (wants_none rfl) rfl (ex_move rfl) ?_
        refine JL_q (wants_none rfl) rfl (ex_move rfl) ?_
        refine JL_q (wants_none rfl) rfl (ex_nilCheck_pa 1 rfl rfl) ?_
        refine JL_st (wants_none rfl) rfl (st_field_pa 1 (GConfig.at_Left _) fi_37_1 rfl rfl rfl) (fun q6 => ?_)
        refine JL_st (wants_none rfl) rfl (st_load_pa_o 0 (opens_sl _) ti_25 rfl rfl) (fun v7 => ?_)
        refine JL_q (wants_none rfl) rfl (ex_move rfl) ?_
        refine JL_q (wants_none rfl) rfl (ex_sub rfl rfl) ?_
        refine JL_q (wants_none rfl) rfl (ex_move rfl) ?_
        refine JL_q (wants_none rfl) rfl (ex_sub rfl rfl) ?_
        refine JL_bnd fun r8 hr9 => ?_
        refine JL_call (wants_none rfl) rfl Try.call53 rfl (Ca_of0 fun w hh => c_spec_l13Cell _ w (fun _ hk => hk.elim) _ _ (hh.rd0 0 rfl) _ _ hr9) (fun _ => ?_)
        refine JL_st (wants_none rfl) rfl (st_buildSlice (vs := [.int .i64 r8]) ([r8] : List Int) Try.underlying25 ti_2 zi_2 rfl rfl rfl (fun w hh => ⟨(Rd.mk_int _ _ _), trivial⟩)) (fun b10 => ?_)
        refine JL_bnd fun z11 hz12 => ?_
        refine JL_st (wants_none rfl) rfl (st_append 5 Try.underlying25 ti_2 zi_2 rfl bi_2 rfl rfl rfl rfl (fun w hh => hh.src_ow 0 rfl) hz12) (fun v13 => ?_)
        refine JL_q (wants_none rfl) rfl (ex_assign rfl) ?_
        refine JL_nil ?_
        refine N_block ?_
        refine N_then ?_
        refine J_region ?_
        refine JL_q (wants_none rfl) rfl (ex_move rfl) ?_
        refine JL_q (wants_none rfl) rfl (ex_add rfl rfl) ?_
        refine JL_q (wants_none rfl) rfl (ex_assign rfl) ?_
        refine JL_nil ?_
        exact N_next' v13 ⟨rfl, rfl, rfl, rfl, rfl, rfl, trivial⟩ [3, 4, 5] rfl rfl
      · refine J_region ?_
        refine JL_q (wants_none rfl) rfl (ex_move rfl) ?_
        refine JL_q (wants_none rfl) rfl (ex_move rfl) ?_
        refine JL_q (wants_none rfl) rfl (ex_nilCheck_pa 1 rfl rfl) ?_
        refine JL_st (wants_none rfl) rfl (st_field_pa 1 (GConfig.at_Right _) fi_37_2 rfl rfl rfl) (fun q14 => ?_)
        refine JL_st (wants_none rfl) rfl (st_load_pa_o 0 (opens_sl _) ti_25 rfl rfl) (fun v15 => ?_)
        refine JL_q (wants_none rfl) rfl (ex_move rfl) ?_
        refine JL_q (wants_none rfl) rfl (ex_move rfl) ?_
        refine JL_q (wants_none rfl) rfl (ex_sub rfl rfl) ?_
        refine JL_bnd fun r16 hr17 => ?_
        refine JL_call (wants_none rfl) rfl Try.call53 rfl (Ca_of0 fun w hh => c_spec_l13Cell _ w (fun _ hk => hk.elim) _ _ (hh.rd0 0 rfl) _ _ hr17) (fun _ => ?_)
        refine JL_st (wants_none rfl) rfl (st_buildSlice (vs := [.int .i64 r16]) ([r16] : List Int) Try.underlying25 ti_2 zi_2 rfl rfl rfl (fun w hh => ⟨(Rd.mk_int _ _ _), trivial⟩)) (fun b18 => ?_)
        refine JL_bnd fun z19 hz20 => ?_
        refine JL_st (wants_none rfl) rfl (st_append 5 Try.underlying25 ti_2 zi_2 rfl bi_2 rfl rfl rfl rfl (fun w hh => hh.src_ow 0 rfl) hz20) (fun v21 => ?_)
        refine JL_q (wants_none rfl) rfl (ex_assign rfl) ?_
        refine JL_nil ?_
        refine N_block ?_
        refine N_then ?_
        refine J_region ?_
        refine JL_q (wants_none rfl) rfl (ex_move rfl) ?_
        refine JL_q (wants_none rfl) rfl (ex_add rfl rfl) ?_
        refine JL_q (wants_none rfl) rfl (ex_assign rfl) ?_
        refine JL_nil ?_
        exact N_next' v21 ⟨rfl, rfl, rfl, rfl, rfl, rfl, trivial⟩ [3, 4, 5] rfl rfl
    · refine J_exit ?_
      refine N_then_exit ?_
      exact N_break' g3 ⟨rfl, rfl, rfl, rfl, rfl, rfl, trivial⟩ [0, 1, 2] rfl rfl
  · refine N_then ?_
    refine J_seq ?_
    refine J_draw [2] (by kernel_rfl) ?_
    refine JP_take (i := 0) [0, 1] [2] rfl (by kernel_rfl) (by kernel_rfl) (by kernel_rfl) rfl rfl (wants_none rfl) rfl (ex_move rfl) ?_
    refine JP_take (i := 1) [0, 1] [2] rfl (by kernel_rfl) (by kernel_rfl) (by kernel_rfl) rfl rfl (wants_none rfl) rfl (ex_move rfl) ?_
    refine JP_take (i := 2) [0, 1] [2] rfl (by kernel_rfl) (by kernel_rfl) (by kernel_rfl) rfl rfl (wants_none rfl) rfl (ex_move rfl) ?_
    refine JP_take (i := 3) [0, 1] [2] rfl (by kernel_rfl) (by kernel_rfl) (by kernel_rfl) rfl rfl (wants_none rfl) rfl (ex_move rfl) ?_
    refine JP_take (i := 4) [0, 1] [2] rfl (by kernel_rfl) (by kernel_rfl) (by kernel_rfl) rfl rfl (wants_none rfl) rfl (ex_nilCheck_pa 1 rfl rfl) ?_
    refine JP_sq (i := 5) [2] rfl (by kernel_rfl) (by kernel_rfl) (by kernel_rfl) rfl (wants_none rfl) rfl (sq_field_pa 1 (GConfig.at_State _) fi_37_0 rfl rfl rfl) (fun q22 => ?_)
    refine JP_sq (i := 6) [3] rfl (by kernel_rfl) (by kernel_rfl) (by kernel_rfl) rfl (wants_none rfl) rfl (sq_load_pa_o 0 (opens_int _) ti_2 rfl rfl) (fun _ => ?_)
    refine JP_take (i := 7) [0, 1, 2] [3] rfl (by kernel_rfl) (by kernel_rfl) (by kernel_rfl) rfl rfl (wants_none rfl) rfl (ex_move rfl) ?_
    refine JP_take (i := 8) [0, 1, 2] [3] rfl (by kernel_rfl) (by kernel_rfl) (by kernel_rfl) rfl rfl (wants_none rfl) rfl (ex_move rfl) ?_
    refine JP_bnd fun y24 hy25 => ?_
    refine JP_ow_open (v := g3) 3 rfl hy25 ?_; rintro b26 cap27 rfl
    refine JP_take (i := 9) [0, 1, 2] [3] rfl (by kernel_rfl) (by kernel_rfl) (by kernel_rfl) rfl rfl (wants_none rfl) rfl (ex_index_own Try.underlying25 ti_2 rfl rfl hy25 (by first | rfl | simp)) ?_
    refine JP_go [0, 1, 2] [3] rfl rfl rfl (fun w29 h1_30 hp28 => ?_)
    refine JD_one (i := 10) (by kernel_rfl) ?_
    refine JO_q rfl (wants_none rfl) rfl (ex_load_ow_int 3 ti_2 rfl rfl hy25) ?_
    refine JD_bnd fun r32 hr33 => ?_
    refine JD_one (i := 11) (by kernel_rfl) ?_
    refine JO_call rfl (wants_none rfl) rfl Try.call49 rfl (Ca_of0 fun w hh => c_spec_l33Head _ w (fun _ hk => hk.elim) _ _ (hh.pa0 1 rfl) _ _ _ hr33) (fun _ => ?_)
    refine JD_bnd fun y34 hy35 => ?_
    refine JD_take (i := 12) hp28 rfl (by kernel_rfl) (by kernel_rfl) (by kernel_rfl) (wants_none rfl) rfl (ex_index_own Try.underlying25 ti_2 rfl rfl hy35 (by first | rfl | simp)) ?_
    refine JD_one (i := 13) (by kernel_rfl) ?_
    refine JO_sk rfl (wants_none rfl) (sk_store_ow 3 ti_2 rfl rfl rfl hy35 (fun w hh => (Rd.mk_int _ _ _))) (sub_owl 0 rfl) ?_
    refine JD_done (by kernel_rfl) ?_
    refine N_then ?_
    refine J_seq ?_
    refine J_draw [] (by kernel_rfl) ?_
    refine JP_take (i := 0) [0, 1, 2, 3] [] rfl (by kernel_rfl) (by kernel_rfl) (by kernel_rfl) rfl rfl (wants_none rfl) rfl (ex_move rfl) ?_
    refine JP_take (i := 1) [0, 1, 2, 3] [] rfl (by kernel_rfl) (by kernel_rfl) (by kernel_rfl) rfl rfl (wants_none rfl) rfl (ex_move rfl) ?_
    refine JP_take (i := 2) [0, 1, 2, 3] [] rfl (by kernel_rfl) (by kernel_rfl) (by kernel_rfl) rfl rfl (wants_none rfl) rfl (ex_nilCheck_pa 2 rfl rfl) ?_
    refine JP_sq (i := 3) [] rfl (by kernel_rfl) (by kernel_rfl) (by kernel_rfl) rfl (wants_none rfl) rfl (sq_field_pa 2 (GConfig.at_Left _) fi_37_1 rfl rfl rfl) (fun q36 => ?_)
    refine JP_sq (i := 4) [] rfl (by kernel_rfl) (by kernel_rfl) (by kernel_rfl) rfl (wants_none rfl) rfl (sq_load_pa_o 0 (opens_sl _) ti_25 rfl rfl) (fun v37 => ?_)
    refine JP_take (i := 5) [0, 1, 2, 3, 4, 5] [] rfl (by kernel_rfl) (by kernel_rfl) (by kernel_rfl) rfl rfl (wants_none rfl) rfl (ex_len_rd 0 Try.underlying25 rfl rfl) ?_
    refine JP_take (i := 6) [0, 1, 2, 3, 4, 5] [] rfl (by kernel_rfl) (by kernel_rfl) (by kernel_rfl) rfl rfl (wants_none rfl) rfl (ex_move rfl) ?_
    refine JP_take (i := 7) [0, 1, 2, 3, 4, 5] [] rfl (by kernel_rfl) (by kernel_rfl) (by kernel_rfl) rfl rfl (wants_none rfl) rfl (ex_leq rfl rfl) ?_
    refine JP_take (i := 8) [0, 1, 2, 3, 4, 5] [] rfl (by kernel_rfl) (by kernel_rfl) (by kernel_rfl) rfl rfl (wants_none rfl) rfl (ex_move rfl) ?_
    refine JP_cond (fun h38 => ?_) (fun h38 => ?_)
    · refine JP_take (i := 9) [0, 1, 2, 3, 4, 5] [] rfl (by kernel_rfl) (by kernel_rfl) (by kernel_rfl) rfl rfl (wants_some rfl rfl rfl h38) rfl (ex_move rfl) ?_
      refine JP_take (i := 10) [0, 1, 2, 3, 4, 5] [] rfl (by kernel_rfl) (by kernel_rfl) (by kernel_rfl) rfl rfl (wants_some rfl rfl rfl h38) rfl (ex_nilCheck_pa 4 rfl rfl) ?_
      refine JP_sq (i := 11) [] rfl (by kernel_rfl) (by kernel_rfl) (by kernel_rfl) rfl (wants_some rfl rfl rfl h38) rfl (sq_field_pa 4 (GConfig.at_Right _) fi_37_2 rfl rfl rfl) (fun q39 => ?_)
      refine JP_sq (i := 12) [] rfl (by kernel_rfl) (by kernel_rfl) (by kernel_rfl) rfl (wants_some rfl rfl rfl h38) rfl (sq_load_pa_o 0 (opens_sl _) ti_25 rfl rfl) (fun v40 => ?_)
      refine JP_take (i := 13) [0, 1, 2, 3, 4, 5, 6, 7] [] rfl (by kernel_rfl) (by kernel_rfl) (by kernel_rfl) rfl rfl (wants_some rfl rfl rfl h38) rfl (ex_len_rd 0 Try.underlying25 rfl rfl) ?_
      refine JP_take (i := 14) [0, 1, 2, 3, 4, 5, 6, 7] [] rfl (by kernel_rfl) (by kernel_rfl) (by kernel_rfl) rfl rfl (wants_some rfl rfl rfl h38) rfl (ex_move rfl) ?_
      refine JP_take (i := 15) [0, 1, 2, 3, 4, 5, 6, 7] [] rfl (by kernel_rfl) (by kernel_rfl) (by kernel_rfl) rfl rfl (wants_some rfl rfl rfl h38) rfl (ex_move rfl) ?_
      refine JP_take (i := 16) [0, 1, 2, 3, 4, 5, 6, 7] [] rfl (by kernel_rfl) (by kernel_rfl) (by kernel_rfl) rfl rfl (wants_some rfl rfl rfl h38) rfl (ex_sub rfl rfl) ?_
      refine JP_take (i := 17) [0, 1, 2, 3, 4, 5, 6, 7] [] rfl (by kernel_rfl) (by kernel_rfl) (by kernel_rfl) rfl rfl (wants_some rfl rfl rfl h38) rfl (ex_leq rfl rfl) ?_
      refine JP_take (i := 18) [0, 1, 2, 3, 4, 5, 6, 7] [] rfl (by kernel_rfl) (by kernel_rfl) (by kernel_rfl) rfl rfl (wants_none rfl) rfl (ex_pick_true rfl h38 rfl) ?_
      refine JP_take (i := 19) [0, 1, 2, 3, 4, 5, 6, 7] [] rfl (by kernel_rfl) (by kernel_rfl) (by kernel_rfl) rfl rfl (wants_none rfl) rfl (ex_assign rfl) ?_
      refine JP_take (i := 20) [0, 1, 2, 3, 4, 5, 6, 7] [] rfl (by kernel_rfl) (by kernel_rfl) (by kernel_rfl) rfl rfl (wants_none rfl) rfl (ex_assign rfl) ?_
      refine JP_go [] [] rfl rfl rfl (fun _ _ _ => ?_)
      refine JD_done (by kernel_rfl) ?_
      refine N_then ?_
      refine J_ret ?_
      exact N_ret2 rfl (rv_tmp rfl) (rv_tmp rfl) (fun w hh => ⟨(.slice (some ⟨b26, 0, none⟩) s2.1.length cap27), rfl, hh.sel [7] rfl⟩)
    · refine JP_pass (i := 9) rfl (by kernel_rfl) (by kernel_rfl) (by kernel_rfl) rfl rfl h38 rfl ?_
      refine JP_pass (i := 10) rfl (by kernel_rfl) (by kernel_rfl) (by kernel_rfl) rfl rfl h38 rfl ?_
      refine JP_pass (i := 11) rfl (by kernel_rfl) (by kernel_rfl) (by kernel_rfl) rfl rfl h38 rfl ?_
      refine JP_pass (i := 12) rfl (by kernel_rfl) (by kernel_rfl) (by kernel_rfl) rfl rfl h38 rfl ?_
      refine JP_pass (i := 13) rfl (by kernel_rfl) (by kernel_rfl) (by kernel_rfl) rfl rfl h38 rfl ?_
      refine JP_pass (i := 14) rfl (by kernel_rfl) (by kernel_rfl) (by kernel_rfl) rfl rfl h38 rfl ?_
      refine JP_pass (i := 15) rfl (by kernel_rfl) (by kernel_rfl) (by kernel_rfl) rfl rfl h38 rfl ?_
      refine JP_pass (i := 16) rfl (by kernel_rfl) (by kernel_rfl) (by kernel_rfl) rfl rfl h38 rfl ?_
      refine JP_pass (i := 17) rfl (by kernel_rfl) (by kernel_rfl) (by kernel_rfl) rfl rfl h38 rfl ?_
      refine JP_take (i := 18) [0, 1, 2, 3, 4, 5] [] rfl (by kernel_rfl) (by kernel_rfl) (by kernel_rfl) rfl rfl (wants_none rfl) rfl (ex_pick_false rfl h38 rfl) ?_
      refine JP_take (i := 19) [0, 1, 2, 3, 4, 5] [] rfl (by kernel_rfl) (by kernel_rfl) (by kernel_rfl) rfl rfl (wants_none rfl) rfl (ex_assign rfl) ?_
      refine JP_take (i := 20) [0, 1, 2, 3, 4, 5] [] rfl (by kernel_rfl) (by kernel_rfl) (by kernel_rfl) rfl rfl (wants_none rfl) rfl (ex_assign rfl) ?_
      refine JP_go [] [] rfl rfl rfl (fun _ _ _ => ?_)
      refine JD_done (by kernel_rfl) ?_
      refine N_then ?_
      refine J_ret ?_
      exact N_ret2 rfl (rv_tmp rfl) (rv_tmp rfl) (fun w hh => ⟨(.slice (some ⟨b26, 0, none⟩) s2.1.length cap27), rfl, hh.sel [5] rfl⟩)

set_option maxHeartbeats 40000000 in
theorem c_spec_l33Start (A : Nat → Prop) (w : World) (hA : ∀ k, A k → k < w.heap.size) (v0_ : Value) (p0 : GMachine) (hp0 : RdA A w.heap.size w v0_ p0) (v1_ : Value) (p1 : GConfig) (hp1 : RdA A w.heap.size w v1_ p1) (p2 : Int) (p3 : Int) (r : (List Int) × Int) (hr : F_spec_l33Start p0 p1 p2 p3 = some r) :
    Con Try.prog 24 [v0_, v1_, .int .i64 p2, .int .i64 p3] A w (fun x_ : Value => .tuple #[x_, .int .i64 r.2]) (fun x_ => [.ow 2 x_ r.1]) := by
  refine Con_of (v := fun (r : (List Int) × Int) (x_ : Value) => .tuple #[x_, .int .i64 r.2]) (fs := fun r x_ => [.ow 2 x_ r.1]) Try.func24 rfl Try.ntmps24 rfl (((SH.start hA).start_pa' rfl hp0).start_pa' rfl hp1) rfl ?_ hr
  unfold F_spec_l33Start
  refine J_seq ?_
  refine J_region ?_
  refine JL_q (wants_none rfl) rfl (ex_assign rfl) ?_
  refine JL_q (wants_none rfl) rfl (ex_assign rfl) ?_
  refine JL_nil ?_
  refine N_then ?_
  refine J_seq ?_
  refine J_region ?_
  refine JL_q (wants_none rfl) rfl (ex_move rfl) ?_
  refine JL_q (wants_none rfl) rfl (ex_move rfl) ?_
  refine JL_q (wants_none rfl) rfl (ex_move rfl) ?_
  refine JL_q (wants_none rfl) rfl (ex_move rfl) ?_
  refine JL_bnd fun r1 hr2 => ?_
  refine JL_call (wants_none rfl) rfl Try.call28 rfl (Ca_self (fun _ => rfl) fun w hh => c_spec_l33Colors _ w (fun _ hk => hk.elim) _ _ (hh.pa0 1 rfl) _ _ (hh.pa0 0 rfl) _ _ _ hr2) (fun x3 => ?_)
  refine JL_q (wants_none rfl) rfl (ex_move rfl) ?_
  refine JL_q (wants_none rfl) rfl (ex_extract rfl rfl) ?_
  refine JL_q (wants_none rfl) rfl (ex_extract rfl rfl) ?_
  refine JL_q (wants_none rfl) rfl (ex_assign rfl) ?_
  refine JL_q (wants_none rfl) rfl (ex_assign rfl) ?_
  refine JL_nil ?_
  refine N_then ?_
  refine J_seq ?_
  refine J_seq ?_
  refine J_region ?_
  refine JL_q (wants_none rfl) rfl (ex_move rfl) ?_
  refine JL_q (wants_none rfl) rfl (ex_not rfl) ?_
  refine JL_nil ?_
  refine N_then ?_
  refine J_if rfl (fun h4 => ?_) (fun h4 => ?_)
  · refine J_seq ?_
    refine J_region ?_
    refine JL_q (wants_none rfl) rfl (ex_assign rfl) ?_
    refine JL_q (wants_none rfl) rfl (ex_assign rfl) ?_
    refine JL_nil ?_
    refine N_then ?_
    refine J_ret ?_
    refine N_then_ret ?_
    refine N_ctx (fun w hh => SH.ow_nil (α := Int) 2 hh) ?_
    exact N_ret2 rfl (rv_tmp rfl) (rv_tmp rfl) (fun w hh => ⟨(.slice none 0 0 : Value), rfl, hh.sel [0] rfl⟩)
  · refine J_skip ?_
    refine N_then ?_
    refine J_seq ?_
    refine J_region ?_
    refine JL_q (wants_none rfl) rfl (ex_move rfl) ?_
    refine JL_q (wants_none rfl) rfl (ex_assign rfl) ?_
    refine JL_q (wants_none rfl) rfl (ex_assign rfl) ?_
    refine JL_nil ?_
    refine N_then ?_
    refine J_ret ?_
    exact N_ret2 rfl (rv_tmp rfl) (rv_tmp rfl) (fun w hh => ⟨x3, rfl, hh.sel [0] rfl⟩)

set_option maxHeartbeats 40000000 in
theorem c_spec_l05Head (A : Nat → Prop) (w : World) (hA : ∀ k, A k → k < w.heap.size) (v0_ : Value) (p0 : GConfig) (hp0 : RdA A w.heap.size w v0_ p0) (r : Int) (hr : F_spec_l05Head p0 = some r) :
    Con Try.prog 50 [v0_] A w (fun x_ : Unit => .int .i64 r) (fun x_ => []) := by
  refine Con_of (v := fun (r : Int) (x_ : Unit) => .int .i64 r) (fs := fun r x_ => []) Try.func50 rfl Try.ntmps50 rfl ((SH.start hA).start_pa' rfl hp0) rfl ?_ hr
  unfold F_spec_l05Head
  refine J_seq ?_
  refine J_region ?_
  refine JL_q (wants_none rfl) rfl (ex_assign rfl) ?_
  refine JL_nil ?_
  refine N_then ?_
  refine J_seq ?_
  refine J_seq ?_
  refine J_region ?_
  refine JL_q (wants_none rfl) rfl (ex_move rfl) ?_
  refine JL_q (wants_none rfl) rfl (ex_nilCheck_pa 0 rfl rfl) ?_
  refine JL_st (wants_none rfl) rfl (st_field_pa 0 (GConfig.at_Right _) fi_37_2 rfl rfl rfl) (fun q1 => ?_)
  refine JL_st (wants_none rfl) rfl (st_load_pa_o 0 (opens_sl _) ti_25 rfl rfl) (fun v2 => ?_)
  refine JL_q (wants_none rfl) rfl (ex_len_rd 0 Try.underlying25 rfl rfl) ?_
  refine JL_q (wants_none rfl) rfl (ex_eql rfl rfl) ?_
  refine JL_nil ?_
  refine N_then ?_
  refine J_if rfl (fun h3 => ?_) (fun h3 => ?_)
  · refine J_seq ?_
    refine J_region ?_
    refine JL_q (wants_none rfl) rfl (ex_assign rfl) ?_
    refine JL_nil ?_
    refine N_then ?_
    refine J_ret ?_
    refine N_then_ret ?_
    exact N_ret1 rfl (rv_tmp rfl) (fun w hh => ⟨(), rfl, hh.sel [] rfl⟩)
  · refine J_skip ?_
    refine N_then ?_
    refine J_seq ?_
    refine J_region ?_
    refine JL_q (wants_none rfl) rfl (ex_move rfl) ?_
    refine JL_q (wants_none rfl) rfl (ex_nilCheck_pa 2 rfl rfl) ?_
    refine JL_st (wants_none rfl) rfl (st_field_pa 2 (GConfig.at_Right _) fi_37_2 rfl rfl rfl) (fun q4 => ?_)
    refine JL_st (wants_none rfl) rfl (st_load_pa_o 0 (opens_sl _) ti_25 rfl rfl) (fun v5 => ?_)
    refine JL_bnd fun y6 hy7 => ?_
    refine JL_st (wants_none rfl) rfl (st_index 0 Try.underlying25 ti_2 rfl rfl rfl hy7) (fun q8 => ?_)
    refine JL_st (wants_none rfl) rfl (st_load_pt_o 0 (opens_int _) ti_2 rfl rfl) (fun _ => ?_)
    refine JL_q (wants_none rfl) rfl (ex_assign rfl) ?_
    refine JL_nil ?_
    refine N_then ?_
    refine J_ret ?_
    exact N_ret1 rfl (rv_tmp rfl) (fun w hh => ⟨(), rfl, hh.sel [] rfl⟩)

set_option maxHeartbeats 40000000 in
theorem c_spec_l05At (A : Nat → Prop) (w : World) (hA : ∀ k, A k → k < w.heap.size) (v0_ : Value) (p0 : GMachine) (hp0 : RdA A w.heap.size w v0_ p0) (v1_ : Value) (p1 : GConfig) (hp1 : RdA A w.heap.size w v1_ p1) (r : Int) (hr : F_spec_l05At p0 p1 = some r) :
    Con Try.prog 26 [v0_, v1_] A w (fun x_ : Unit => .int .i64 r) (fun x_ => []) := by
  refine Con_of (v := fun (r : Int) (x_ : Unit) => .int .i64 r) (fs := fun r x_ => []) Try.func26 rfl Try.ntmps26 rfl (((SH.start hA).start_pa' rfl hp0).start_pa' rfl hp1) rfl ?_ hr
  unfold F_spec_l05At
  refine J_seq ?_
  refine J_region ?_
  refine JL_q (wants_none rfl) rfl (ex_assign rfl) ?_
  refine JL_nil ?_
  refine N_then ?_
  refine J_seq ?_
  refine J_draw [] (by kernel_rfl) ?_
  refine JP_take (i := 0) [0, 1] [] rfl (by kernel_rfl) (by kernel_rfl) (by kernel_rfl) rfl rfl (wants_none rfl) rfl (ex_move rfl) ?_
  refine JP_take (i := 1) [0, 1] [] rfl (by kernel_rfl) (by kernel_rfl) (by kernel_rfl) rfl rfl (wants_none rfl) rfl (ex_nilCheck_pa 0 rfl rfl) ?_
  refine JP_sq (i := 2) [] rfl (by kernel_rfl) (by kernel_rfl) (by kernel_rfl) rfl (wants_none rfl) rfl (sq_field_pa 0 (GConfig.at_State _) fi_37_0 rfl rfl rfl) (fun q1 => ?_)
  refine JP_sq (i := 3) [] rfl (by kernel_rfl) (by kernel_rfl) (by kernel_rfl) rfl (wants_none rfl) rfl (sq_load_pa_o 0 (opens_int _) ti_2 rfl rfl) (fun _ => ?_)
  refine JP_take (i := 4) [0, 1, 2] [] rfl (by kernel_rfl) (by kernel_rfl) (by kernel_rfl) rfl rfl (wants_none rfl) rfl (ex_move rfl) ?_
  refine JP_take (i := 5) [0, 1, 2] [] rfl (by kernel_rfl) (by kernel_rfl) (by kernel_rfl) rfl rfl (wants_none rfl) rfl (ex_nilCheck_pa 2 rfl rfl) ?_
  refine JP_sq (i := 6) [] rfl (by kernel_rfl) (by kernel_rfl) (by kernel_rfl) rfl (wants_none rfl) rfl (sq_field_pa 2 (GMachine.at_Symbols _) fi_35_0 rfl rfl rfl) (fun q3 => ?_)
  refine JP_sq (i := 7) [] rfl (by kernel_rfl) (by kernel_rfl) (by kernel_rfl) rfl (wants_none rfl) rfl (sq_load_pa_o 0 (opens_int _) ti_2 rfl rfl) (fun _ => ?_)
  refine JP_take (i := 8) [0, 1, 2, 3] [] rfl (by kernel_rfl) (by kernel_rfl) (by kernel_rfl) rfl rfl (wants_none rfl) rfl (ex_mul rfl rfl) ?_
  refine JP_take (i := 9) [0, 1, 2, 3] [] rfl (by kernel_rfl) (by kernel_rfl) (by kernel_rfl) rfl rfl (wants_none rfl) rfl (ex_move rfl) ?_
  refine JP_go [0, 1, 2, 3] [] rfl rfl rfl (fun w6 h1_7 hp5 => ?_)
  refine JD_bnd fun r8 hr9 => ?_
  refine JD_one (i := 10) (by kernel_rfl) ?_
  refine JO_call rfl (wants_none rfl) rfl Try.call50 rfl (Ca_of0 fun w hh => c_spec_l05Head _ w (fun _ hk => hk.elim) _ _ (hh.pa0 2 rfl) _ hr9) (fun _ => ?_)
  refine JD_take (i := 11) hp5 rfl (by kernel_rfl) (by kernel_rfl) (by kernel_rfl) (wants_none rfl) rfl (ex_add rfl rfl) ?_
  refine JD_take (i := 12) hp5 rfl (by kernel_rfl) (by kernel_rfl) (by kernel_rfl) (wants_none rfl) rfl (ex_assign rfl) ?_
  refine JD_done (by kernel_rfl) ?_
  refine N_then ?_
  refine J_ret ?_
  exact N_ret1 rfl (rv_tmp rfl) (fun w hh => ⟨(), rfl, hh.sel [] rfl⟩)

set_option maxHeartbeats 40000000 in
theorem c_spec_l05Halts (A : Nat → Prop) (w : World) (hA : ∀ k, A k → k < w.heap.size) (v0_ : Value) (p0 : GMachine) (hp0 : RdA A w.heap.size w v0_ p0) (v1_ : Value) (p1 : GConfig) (hp1 : RdA A w.heap.size w v1_ p1) (r : Bool) (hr : F_spec_l05Halts p0 p1 = some r) :
    Con Try.prog 25 [v0_, v1_] A w (fun x_ : Unit => .bool r) (fun x_ => []) := by
  refine Con_of (v := fun (r : Bool) (x_ : Unit) => .bool r) (fs := fun r x_ => []) Try.func25 rfl Try.ntmps25 rfl (((SH.start hA).start_pa' rfl hp0).start_pa' rfl hp1) rfl ?_ hr
  unfold F_spec_l05Halts
  refine J_seq ?_
  refine J_region ?_
  refine JL_q (wants_none rfl) rfl (ex_assign rfl) ?_
  refine JL_nil ?_
  refine N_then ?_
  refine J_seq ?_
  refine J_draw [] (by kernel_rfl) ?_
  refine JP_take (i := 0) [0, 1] [] rfl (by kernel_rfl) (by kernel_rfl) (by kernel_rfl) rfl rfl (wants_none rfl) rfl (ex_move rfl) ?_
  refine JP_take (i := 1) [0, 1] [] rfl (by kernel_rfl) (by kernel_rfl) (by kernel_rfl) rfl rfl (wants_none rfl) rfl (ex_nilCheck_pa 1 rfl rfl) ?_
  refine JP_sq (i := 2) [] rfl (by kernel_rfl) (by kernel_rfl) (by kernel_rfl) rfl (wants_none rfl) rfl (sq_field_pa 1 (GMachine.at_Rules _) fi_35_2 rfl rfl rfl) (fun q1 => ?_)
  refine JP_sq (i := 3) [] rfl (by kernel_rfl) (by kernel_rfl) (by kernel_rfl) rfl (wants_none rfl) rfl (sq_load_pa_o 0 (opens_sl _) ti_33 rfl rfl) (fun v2 => ?_)
  refine JP_take (i := 4) [0, 1, 2, 3] [] rfl (by kernel_rfl) (by kernel_rfl) (by kernel_rfl) rfl rfl (wants_none rfl) rfl (ex_move rfl) ?_
  refine JP_take (i := 5) [0, 1, 2, 3] [] rfl (by kernel_rfl) (by kernel_rfl) (by kernel_rfl) rfl rfl (wants_none rfl) rfl (ex_move rfl) ?_
  refine JP_go [0, 1, 2, 3] [] rfl rfl rfl (fun w4 h1_5 hp3 => ?_)
  refine JD_bnd fun r6 hr7 => ?_
  refine JD_one (i := 6) (by kernel_rfl) ?_
  refine JO_call rfl (wants_none rfl) rfl Try.call26 rfl (Ca_of0 fun w hh => c_spec_l05At _ w (fun _ hk => hk.elim) _ _ (hh.pa0 3 rfl) _ _ (hh.pa0 2 rfl) _ hr7) (fun _ => ?_)
  refine JD_bnd fun y8 hy9 => ?_
  refine JD_sq (i := 7) (fs := fun q10 => [.pt q10 y8]) [] h1_5 rfl rfl (by kernel_rfl) (by kernel_rfl) (by kernel_rfl) (wants_none rfl) rfl (sq_index 0 Try.underlying33 ti_60 rfl rfl rfl hy9) (fun _ => rfl) (fun q10 h1_11 => ?_)
  refine JD_sq (i := 8) [] h1_11 rfl rfl (by kernel_rfl) (by kernel_rfl) (by kernel_rfl) (wants_none rfl) rfl (sq_load_pt_o 0 (GRule.opens _) ti_60 rfl rfl) (fun _ => rfl) (fun _ h1_13 => ?_)
  refine JD_bnd fun r14 hr15 => ?_
  refine JD_one (i := 9) (by kernel_rfl) ?_
  refine JO_call rfl (wants_none rfl) rfl Try.call48 rfl (Ca_of0 fun w hh => c_spec_l05None _ w (fun _ hk => hk.elim)  _ hr15) (fun _ => ?_)
  refine JD_take (i := 10) hp3 rfl (by kernel_rfl) (by kernel_rfl) (by kernel_rfl) (wants_none rfl) rfl (ex_eql_seq_60 rfl rfl) ?_
  refine JD_take (i := 11) hp3 rfl (by kernel_rfl) (by kernel_rfl) (by kernel_rfl) (wants_none rfl) rfl (ex_assign rfl) ?_
  refine JD_done (by kernel_rfl) ?_
  refine N_then ?_
  refine J_ret ?_
  exact N_ret1 rfl (rv_tmp rfl) (fun w hh => ⟨(), rfl, hh.sel [] rfl⟩)

set_option maxHeartbeats 40000000 in
theorem c_spec_l00Own (A : Nat → Prop) (w : World) (hA : ∀ k, A k → k < w.heap.size) (v0_ : Value) (p0 : (List Int)) (hp0 : Rd A w v0_ p0) (r : (List Int)) (hr : F_spec_l00Own p0 = some r) :
    Con Try.prog 65 [v0_] A w (fun x_ : Value => x_) (fun x_ => [.ow 2 x_ r]) := by
  refine Con_of (v := fun (r : (List Int)) (x_ : Value) => x_) (fs := fun r x_ => [.ow 2 x_ r]) Try.func65 rfl Try.ntmps65 rfl ((SH.start hA).start_rd rfl hp0) rfl ?_ hr
  unfold F_spec_l00Own
  refine J_seq ?_
  refine J_region ?_
  refine JL_q (wants_none rfl) rfl (ex_assign rfl) ?_
  refine JL_nil ?_
  refine N_then ?_
  refine J_seq ?_
  refine J_region ?_
  refine JL_st (wants_none rfl) rfl (st_buildSlice (vs := []) ([] : List Int) Try.underlying25 ti_2 zi_2 rfl rfl rfl (fun w hh => trivial)) (fun b1 => ?_)
  refine JL_q (wants_none rfl) rfl (ex_move rfl) ?_
  refine JL_bnd fun z2 hz3 => ?_
  refine JL_st (wants_none rfl) rfl (st_append 0 Try.underlying25 ti_2 zi_2 rfl bi_2 rfl rfl rfl rfl (fun w hh => hh.src_rd 1 rfl) hz3) (fun v4 => ?_)
  refine JL_q (wants_none rfl) rfl (ex_assign rfl) ?_
  refine JL_nil ?_
  refine N_then ?_
  refine J_ret ?_
  exact N_ret1 rfl (rv_tmp rfl) (fun w hh => ⟨v4, rfl, hh.sel [0] rfl⟩)

end Go.Proofs.Ytbhehmmlkiljeaa
