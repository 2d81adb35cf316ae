/-
  Each function of the program computes what its plain function says: printed by program. No condition.
-/
import Derived.Test.YtceimgjcikkadaaFn
import Derived.Test.YtceimgjcikkadaaInf
import Derived.Test.YtceimgjcikkadaaCon2
namespace Go.Proofs.Ytceimgjcikkadaa
open Go Go.Tc Go.Fn
set_option linter.unusedVariables false

set_option maxHeartbeats 40000000 in
theorem c_impl_foldAction_1 (A : Nat → Prop) (w : World) (hA : ∀ k, A k → k < w.heap.size) (p0 : Int) (p1 : Int) (p2 : Int) (v3_ : Value) (p3 : Int) (hp3 : RdA A w.heap.size w v3_ p3) (v4_ : Value) (p4 : GfoldPlace) (hp4 : RdA A w.heap.size w v4_ p4) (r : Gaction_foldPlace) (hr : F_impl_foldAction_1 p0 p1 p2 p3 p4 = some r) :
    Con Try.prog 101 [.int .i64 p0, .int .i64 p1, .int .i64 p2, v3_, v4_] A w (fun x_ : Unit => .agg #[.int .i64 r.write, .int .i64 r.move, .int .i64 r.next_kind, .int .i64 r.next_q, .int .i64 r.next_half, .bool r.none]) (fun x_ => []) := by
  refine Con_of (v := fun (r : Gaction_foldPlace) (x_ : Unit) => .agg #[.int .i64 r.write, .int .i64 r.move, .int .i64 r.next_kind, .int .i64 r.next_q, .int .i64 r.next_half, .bool r.none]) (fs := fun r x_ => []) Try.func101 rfl Try.ntmps101 rfl (((SH.start hA).start_pa' rfl hp3).start_pa' rfl hp4) rfl ?_ hr
  unfold F_impl_foldAction_1
  refine J_seq ?_
  refine J_region ?_
  refine JL_st (wants_none rfl) rfl (st_alloc zi_118 rfl) (fun b1 => ?_)
  refine JL_nil ?_
  refine N_then ?_
  refine J_seq ?_
  refine J_region ?_
  refine JL_st (wants_none rfl) rfl (st_load_pa_o 2 (opens_int _) ti_2 rfl rfl) (fun _ => ?_)
  refine JL_q (wants_none rfl) rfl (ex_move rfl) ?_
  refine JL_q (wants_none rfl) rfl (ex_move rfl) ?_
  refine JL_st (wants_none rfl) rfl (st_field_pa 1 (GfoldPlace.at_q _) fi_68_1 rfl rfl rfl) (fun q3 => ?_)
  refine JL_st (wants_none rfl) rfl (st_load_pa_o 0 (opens_int _) ti_2 rfl rfl) (fun _ => ?_)
  refine JL_q (wants_none rfl) rfl (ex_move rfl) ?_
  refine JL_q (wants_none rfl) rfl (ex_build si_68 rfl (.cons fi_68_0 rfl rfl (.cons fi_68_1 rfl rfl (.cons fi_68_2 rfl rfl .nil))) (fun w hh => ⟨cv_int, cv_int, cv_int, trivial⟩)) ?_
  refine JL_q (wants_none rfl) rfl (ex_buildN [(0, .int .i64 p3, [.int .i64 p3]), (1, .int .i64 p0, [.int .i64 p0]), (2, .agg #[.int .i64 p1, .int .i64 p4.q, .int .i64 p2], [.int .i64 p1, .int .i64 p4.q, .int .i64 p2])] si_118 rfl (.cons fi_118_0 rfl rfl rfl (.cons fi_118_1 rfl rfl rfl (.cons fi_118_2 rfl rfl rfl .nil))) (fun w hh => ⟨cv_int, cv_int, (cv_aggs ⟨cv_int, cv_int, cv_int, trivial⟩), trivial⟩)) ?_
  refine JL_sk (wants_none rfl) (sk_store_bx' 1 ti_118 rfl rfl (fun w hh => (cv_aggs ⟨cv_int, cv_int, cv_int, cv_int, cv_int, cv_bool, trivial⟩)) rfl rfl rfl rfl) ?_
  refine JL_nil ?_
  refine N_then ?_
  refine J_ret ?_
  exact N_ret1 rfl (rv_cell 1 rfl rfl ti_118 rfl) (fun w hh => ⟨(), rfl, hh.sel [] rfl⟩)

set_option maxHeartbeats 40000000 in
theorem c_impl_foldMain (A : Nat → Prop) (w : World) (hA : ∀ k, A k → k < w.heap.size) (v0_ : Value) (p0 : GMachine) (hp0 : Rd A w v0_ p0) (p1 : Int) (p2 : Int) (p3 : Int) (r : Gaction_foldPlace) (hr : F_impl_foldMain p0 p1 p2 p3 = some r) :
    Con Try.prog 102 [v0_, .int .i64 p1, .int .i64 p2, .int .i64 p3] A w (fun x_ : Unit => .agg #[.int .i64 r.write, .int .i64 r.move, .int .i64 r.next_kind, .int .i64 r.next_q, .int .i64 r.next_half, .bool r.none]) (fun x_ => []) := by
  obtain ⟨v0_0, rfl, hp0_0⟩ := GMachine.open hp0
  refine Con_of (v := fun (r : Gaction_foldPlace) (x_ : Unit) => .agg #[.int .i64 r.write, .int .i64 r.move, .int .i64 r.next_kind, .int .i64 r.next_q, .int .i64 r.next_half, .bool r.none]) (fs := fun r x_ => []) Try.func102 rfl Try.ntmps102 rfl ((SH.start hA).start_rd rfl hp0_0) rfl ?_ hr
  unfold F_impl_foldMain
  refine J_seq ?_
  refine J_region ?_
  refine JL_st (wants_none rfl) rfl (st_box' rfl (fun w hh => (cv_aggs ⟨cv_int, cv_int, (hh.cv 0 rfl), trivial⟩))) (fun b1 => ?_)
  refine JL_st (wants_none rfl) rfl (st_alloc zi_118 rfl) (fun b2 => ?_)
  refine JL_nil ?_
  refine N_then ?_
  refine J_seq ?_
  refine J_region ?_
  refine JL_q (wants_none rfl) rfl (ex_fieldAddr fi_28_2 rfl rfl) ?_
  refine JL_q (wants_none rfl) rfl (ex_load_bx 1 ti_26 rfl rfl rfl) ?_
  refine JL_q (wants_none rfl) rfl (ex_move rfl) ?_
  refine JL_q (wants_none rfl) rfl (ex_fieldAddr fi_28_0 rfl rfl) ?_
  refine JL_q (wants_none rfl) rfl (ex_load_bx 1 ti_2 rfl rfl rfl) ?_
  refine JL_q (wants_none rfl) rfl (ex_mul rfl rfl) ?_
  refine JL_q (wants_none rfl) rfl (ex_move rfl) ?_
  refine JL_q (wants_none rfl) rfl (ex_add rfl rfl) ?_
  refine JL_bnd fun y3 hy4 => ?_
  refine JL_st (wants_none rfl) rfl (st_index 2 Try.underlying26 ti_97 rfl rfl rfl hy4) (fun q5 => ?_)
  refine JL_st (wants_none rfl) rfl (st_load_pt_o 0 (GRule.opens _) ti_97 rfl rfl) (fun _ => ?_)
  refine JL_st (wants_none rfl) rfl (st_alloc zi_97 rfl) (fun b7 => ?_)
  refine JL_sk (wants_none rfl) (sk_store_bx' 0 ti_97 rfl rfl (fun w hh => (cv_aggs ⟨cv_int, cv_int, cv_int, trivial⟩)) rfl rfl rfl rfl) ?_
  refine JL_nil ?_
  refine N_then ?_
  refine J_seq ?_
  refine J_seq ?_
  refine J_region ?_
  refine JL_q (wants_none rfl) rfl (ex_load_bx_agg 0 ti_97 rfl rfl rfl rfl) ?_
  refine JL_bnd fun r8 hr9 => ?_
  refine JL_call (wants_none rfl) rfl Try.call95 rfl (Ca_of0 fun w hh => c_impl_isRule _ w (fun _ hk => hk.elim) _ _ (GRule.rdmk (Rd.mk_int _ _ _) (Rd.mk_int _ _ _) (Rd.mk_int _ _ _)) _ hr9) (fun _ => ?_)
  refine JL_q (wants_none rfl) rfl (ex_not rfl) ?_
  refine JL_nil ?_
  refine N_then ?_
  refine J_if rfl (fun h10 => ?_) (fun h10 => ?_)
  · refine J_seq ?_
    refine J_region ?_
    refine JL_q (wants_none rfl) rfl (ex_build si_118 rfl (.cons fi_118_3 rfl rfl .nil) (fun w hh => ⟨cv_bool, trivial⟩)) ?_
    refine JL_sk (wants_none rfl) (sk_store_bx' 2 ti_118 rfl rfl (fun w hh => (cv_aggs ⟨cv_int, cv_int, cv_int, cv_int, cv_int, cv_bool, trivial⟩)) rfl rfl rfl rfl) ?_
    refine JL_nil ?_
    refine N_then ?_
    refine J_ret ?_
    refine N_then_ret ?_
    exact N_ret1 rfl (rv_cell 2 rfl rfl ti_118 rfl) (fun w hh => ⟨(), rfl, hh.sel [] rfl⟩)
  · refine J_skip ?_
    refine N_then ?_
    refine J_seq ?_
    refine J_block ?_
    refine J_seq ?_
    refine J_region ?_
    refine JL_q (wants_none rfl) rfl (ex_fieldAddr fi_97_1 rfl rfl) ?_
    refine JL_q (wants_none rfl) rfl (ex_load_bx 0 ti_2 rfl rfl rfl) ?_
    refine JL_q (wants_none rfl) rfl (ex_eql rfl rfl) ?_
    refine JL_q (wants_none rfl) rfl (ex_move rfl) ?_
    refine JL_q (wants_none rfl) rfl (ex_eql rfl rfl) ?_
    refine JL_q (wants_none rfl) rfl (ex_eql_bool Try.underlying4 rfl rfl) ?_
    refine JL_q (wants_none rfl) rfl (ex_assign rfl) ?_
    refine JL_nil ?_
    refine N_then ?_
    refine J_if rfl (fun h11 => ?_) (fun h11 => ?_)
    · refine J_seq ?_
      refine J_region ?_
      refine JL_q (wants_none rfl) rfl (ex_fieldAddr fi_97_0 rfl rfl) ?_
      refine JL_q (wants_none rfl) rfl (ex_load_bx 0 ti_2 rfl rfl rfl) ?_
      refine JL_q (wants_none rfl) rfl (ex_fieldAddr fi_97_2 rfl rfl) ?_
      refine JL_q (wants_none rfl) rfl (ex_load_bx 0 ti_2 rfl rfl rfl) ?_
      refine JL_q (wants_none rfl) rfl (ex_move rfl) ?_
      refine JL_q (wants_none rfl) rfl (ex_build si_68 rfl (.cons fi_68_0 rfl rfl (.cons fi_68_1 rfl rfl (.cons fi_68_2 rfl rfl .nil))) (fun w hh => ⟨cv_int, cv_int, cv_int, trivial⟩)) ?_
      refine JL_q (wants_none rfl) rfl (ex_buildN [(0, .int .i64 y3.Write, [.int .i64 y3.Write]), (1, .int .i64 1, [.int .i64 1]), (2, .agg #[.int .i64 1, .int .i64 y3.Next, .int .i64 p2], [.int .i64 1, .int .i64 y3.Next, .int .i64 p2])] si_118 rfl (.cons fi_118_0 rfl rfl rfl (.cons fi_118_1 rfl rfl rfl (.cons fi_118_2 rfl rfl rfl .nil))) (fun w hh => ⟨cv_int, cv_int, (cv_aggs ⟨cv_int, cv_int, cv_int, trivial⟩), trivial⟩)) ?_
      refine JL_sk (wants_none rfl) (sk_store_bx' 2 ti_118 rfl rfl (fun w hh => (cv_aggs ⟨cv_int, cv_int, cv_int, cv_int, cv_int, cv_bool, trivial⟩)) rfl rfl rfl rfl) ?_
      refine JL_nil ?_
      refine N_then ?_
      refine J_ret ?_
      refine N_block_ret ?_
      refine N_then_ret ?_
      exact N_ret1 rfl (rv_cell 2 rfl rfl ti_118 rfl) (fun w hh => ⟨(), rfl, hh.sel [] rfl⟩)
    · refine J_seq ?_
      refine J_region ?_
      refine JL_q (wants_none rfl) rfl (ex_move rfl) ?_
      refine JL_q (wants_none rfl) rfl (ex_eql rfl rfl) ?_
      refine JL_q (wants_none rfl) rfl (ex_assign rfl) ?_
      refine JL_nil ?_
      refine N_then ?_
      refine J_if rfl (fun h12 => ?_) (fun h12 => ?_)
      · refine J_seq ?_
        refine J_region ?_
        refine JL_q (wants_none rfl) rfl (ex_fieldAddr fi_97_0 rfl rfl) ?_
        refine JL_q (wants_none rfl) rfl (ex_load_bx 0 ti_2 rfl rfl rfl) ?_
        refine JL_q (wants_none rfl) rfl (ex_fieldAddr fi_97_2 rfl rfl) ?_
        refine JL_q (wants_none rfl) rfl (ex_load_bx 0 ti_2 rfl rfl rfl) ?_
        refine JL_q (wants_none rfl) rfl (ex_build si_68 rfl (.cons fi_68_0 rfl rfl (.cons fi_68_1 rfl rfl .nil)) (fun w hh => ⟨cv_int, cv_int, trivial⟩)) ?_
        refine JL_q (wants_none rfl) rfl (ex_buildN [(0, .int .i64 y3.Write, [.int .i64 y3.Write]), (1, .int .i64 (-1), [.int .i64 (-1)]), (2, .agg #[.int .i64 2, .int .i64 y3.Next, .int .i64 0], [.int .i64 2, .int .i64 y3.Next, .int .i64 0])] si_118 rfl (.cons fi_118_0 rfl rfl rfl (.cons fi_118_1 rfl rfl rfl (.cons fi_118_2 rfl rfl rfl .nil))) (fun w hh => ⟨cv_int, cv_int, (cv_aggs ⟨cv_int, cv_int, cv_int, trivial⟩), trivial⟩)) ?_
        refine JL_sk (wants_none rfl) (sk_store_bx' 2 ti_118 rfl rfl (fun w hh => (cv_aggs ⟨cv_int, cv_int, cv_int, cv_int, cv_int, cv_bool, trivial⟩)) rfl rfl rfl rfl) ?_
        refine JL_nil ?_
        refine N_then ?_
        refine J_ret ?_
        refine N_block_ret ?_
        refine N_then_ret ?_
        exact N_ret1 rfl (rv_cell 2 rfl rfl ti_118 rfl) (fun w hh => ⟨(), rfl, hh.sel [] rfl⟩)
      · refine J_skip ?_
        refine N_block ?_
        refine N_then ?_
        refine J_seq ?_
        refine J_region ?_
        refine JL_q (wants_none rfl) rfl (ex_fieldAddr fi_97_0 rfl rfl) ?_
        refine JL_q (wants_none rfl) rfl (ex_load_bx 0 ti_2 rfl rfl rfl) ?_
        refine JL_q (wants_none rfl) rfl (ex_fieldAddr fi_97_2 rfl rfl) ?_
        refine JL_q (wants_none rfl) rfl (ex_load_bx 0 ti_2 rfl rfl rfl) ?_
        refine JL_q (wants_none rfl) rfl (ex_build si_68 rfl (.cons fi_68_0 rfl rfl (.cons fi_68_1 rfl rfl .nil)) (fun w hh => ⟨cv_int, cv_int, trivial⟩)) ?_
        refine JL_q (wants_none rfl) rfl (ex_buildN [(0, .int .i64 y3.Write, [.int .i64 y3.Write]), (1, .int .i64 (-1), [.int .i64 (-1)]), (2, .agg #[.int .i64 4, .int .i64 y3.Next, .int .i64 0], [.int .i64 4, .int .i64 y3.Next, .int .i64 0])] si_118 rfl (.cons fi_118_0 rfl rfl rfl (.cons fi_118_1 rfl rfl rfl (.cons fi_118_2 rfl rfl rfl .nil))) (fun w hh => ⟨cv_int, cv_int, (cv_aggs ⟨cv_int, cv_int, cv_int, trivial⟩), trivial⟩)) ?_
        refine JL_sk (wants_none rfl) (sk_store_bx' 2 ti_118 rfl rfl (fun w hh => (cv_aggs ⟨cv_int, cv_int, cv_int, cv_int, cv_int, cv_bool, trivial⟩)) rfl rfl rfl rfl) ?_
        refine JL_nil ?_
        refine N_then ?_
        refine J_ret ?_
        exact N_ret1 rfl (rv_cell 2 rfl rfl ti_118 rfl) (fun w hh => ⟨(), rfl, hh.sel [] rfl⟩)

set_option maxHeartbeats 40000000 in
theorem c_impl_foldAction (A : Nat → Prop) (w : World) (hA : ∀ k, A k → k < w.heap.size) (v0_ : Value) (p0 : GMachine) (hp0 : Rd A w v0_ p0) (v1_ : Value) (p1 : GfoldPlace) (hp1 : Rd A w v1_ p1) (p2 : Int) (r : Gaction_foldPlace) (hr : F_impl_foldAction p0 p1 p2 = some r) :
    Con Try.prog 81 [v0_, v1_, .int .i64 p2] A w (fun x_ : Unit => .agg #[.int .i64 r.write, .int .i64 r.move, .int .i64 r.next_kind, .int .i64 r.next_q, .int .i64 r.next_half, .bool r.none]) (fun x_ => []) := by
  obtain ⟨v0_0, rfl, hp0_0⟩ := GMachine.open hp0
  obtain rfl := GfoldPlace.open hp1
  refine Con_of (v := fun (r : Gaction_foldPlace) (x_ : Unit) => .agg #[.int .i64 r.write, .int .i64 r.move, .int .i64 r.next_kind, .int .i64 r.next_q, .int .i64 r.next_half, .bool r.none]) (fs := fun r x_ => []) Try.func81 rfl Try.ntmps81 rfl ((SH.start hA).start_rd rfl hp0_0) rfl ?_ hr
  unfold F_impl_foldAction
  refine J_seq ?_
  refine J_region ?_
  refine JL_st (wants_none rfl) rfl (st_box' rfl (fun w hh => (cv_aggs ⟨cv_int, cv_int, (hh.cv 0 rfl), trivial⟩))) (fun b1 => ?_)
  refine JL_st (wants_none rfl) rfl (st_box' rfl (fun w hh => (cv_aggs ⟨cv_int, cv_int, cv_int, trivial⟩))) (fun b2 => ?_)
  refine JL_st (wants_none rfl) rfl (st_box' rfl (fun w hh => cv_int)) (fun b3 => ?_)
  refine JL_st (wants_none rfl) rfl (st_alloc zi_118 rfl) (fun b4 => ?_)
  refine JL_nil ?_
  refine N_then ?_
  refine J_seq ?_
  refine J_region ?_
  refine JL_q (wants_none rfl) rfl (ex_load_bx 1 ti_2 rfl rfl rfl) ?_
  refine JL_q (wants_none rfl) rfl (ex_fieldAddr fi_28_0 rfl rfl) ?_
  refine JL_q (wants_none rfl) rfl (ex_load_bx 3 ti_2 rfl rfl rfl) ?_
  refine JL_q (wants_none rfl) rfl (ex_eql rfl rfl) ?_
  refine JL_q (wants_none rfl) rfl (ex_assign rfl) ?_
  refine JL_nil ?_
  refine N_then ?_
  refine J_seq ?_
  refine J_region ?_
  refine JL_q (wants_none rfl) rfl (ex_makeFunc rfl) ?_
  refine JL_q (wants_none rfl) rfl (ex_assign rfl) ?_
  refine JL_nil ?_
  refine N_then ?_
  refine J_seq ?_
  refine J_block ?_
  refine J_seq ?_
  refine J_cut' (S' := Bool) (G' := Unit) (fun s5 _ => [(3, .pointer (some ⟨b1, 0, none⟩)), (4, .pointer (some ⟨b2, 0, none⟩)), (5, .pointer (some ⟨b3, 0, none⟩)), (6, .pointer (some ⟨b4, 0, none⟩)), (7, .bool (decide (p2 = p0.Symbols))), (8, .func (.func 101) #[] #[.pointer (some ⟨b3, 0, none⟩), .pointer (some ⟨b2, 0, none⟩)]), (14, .bool s5)]) (fun s5 _ => [.rd v0_0 p0.Rules, .bx b1 28 [.int .i64 p0.Symbols, .int .i64 p0.States, v0_0], .bx b2 68 [.int .i64 p1.kind, .int .i64 p1.q, .int .i64 p1.half], .bx b3 2 [.int .i64 p2], .bx b4 118 [.int .i64 0, .int .i64 0, .int .i64 0, .int .i64 0, .int .i64 0, .bool false]]) ?_ (fun s5 g6 => ?_)
  · refine J_region ?_
    refine JL_q (wants_none rfl) rfl (ex_fieldAddr fi_68_0 rfl rfl) ?_
    refine JL_q (wants_none rfl) rfl (ex_load_bx 2 ti_2 rfl rfl rfl) ?_
    refine JL_q (wants_none rfl) rfl (ex_eql rfl rfl) ?_
    refine JL_q (wants_none rfl) rfl (ex_move rfl) ?_
    refine JL_cond (fun h7 => ?_) (fun h7 => ?_)
    · refine JL_q (wants_some rfl rfl rfl h7) rfl (ex_move rfl) ?_
      refine JL_q (wants_some rfl rfl rfl h7) rfl (ex_not rfl) ?_
      refine JL_q (wants_none rfl) rfl (ex_pick_true rfl h7 rfl) ?_
      refine JL_q (wants_none rfl) rfl (ex_assign rfl) ?_
      refine JL_nil ?_
      exact N_meet' () ⟨rfl, rfl, rfl, rfl, rfl, rfl, rfl, trivial⟩ [4, 3, 2, 1, 0] rfl rfl
    · refine JL_passed rfl rfl rfl h7 ?_
      refine JL_passed rfl rfl rfl h7 ?_
      refine JL_q (wants_none rfl) rfl (ex_pick_false rfl h7 rfl) ?_
      refine JL_q (wants_none rfl) rfl (ex_assign rfl) ?_
      refine JL_nil ?_
      exact N_meet' () ⟨rfl, rfl, rfl, rfl, rfl, rfl, rfl, trivial⟩ [4, 3, 2, 1, 0] rfl rfl
  · refine N_then ?_
    refine J_if rfl (fun h8 => ?_) (fun h8 => ?_)
    · refine J_seq ?_
      refine J_region ?_
      refine JL_q (wants_none rfl) rfl (ex_load_bx_agg 1 ti_28 rfl rfl rfl rfl) ?_
      refine JL_q (wants_none rfl) rfl (ex_fieldAddr fi_68_1 rfl rfl) ?_
      refine JL_q (wants_none rfl) rfl (ex_load_bx 2 ti_2 rfl rfl rfl) ?_
      refine JL_q (wants_none rfl) rfl (ex_fieldAddr fi_68_2 rfl rfl) ?_
      refine JL_q (wants_none rfl) rfl (ex_load_bx 2 ti_2 rfl rfl rfl) ?_
      refine JL_q (wants_none rfl) rfl (ex_load_bx 3 ti_2 rfl rfl rfl) ?_
      refine JL_bnd fun r9 hr10 => ?_
      refine JL_call (wants_none rfl) rfl Try.call102 rfl (Ca_of0 fun w hh => c_impl_foldMain _ w (fun _ hk => hk.elim) _ _ (GMachine.rdmk (Rd.mk_int _ _ _) (Rd.mk_int _ _ _) (hh.rd0 0 rfl)) _ _ _ _ hr10) (fun _ => ?_)
      refine JL_sk (wants_none rfl) (sk_store_bx' 4 ti_118 rfl rfl (fun w hh => (cv_aggs ⟨cv_int, cv_int, cv_int, cv_int, cv_int, cv_bool, trivial⟩)) rfl rfl rfl rfl) ?_
      refine JL_nil ?_
      refine N_then ?_
      refine J_ret ?_
      refine N_block_ret ?_
      refine N_then_ret ?_
      exact N_ret1 rfl (rv_cell 4 rfl rfl ti_118 rfl) (fun w hh => ⟨(), rfl, hh.sel [] rfl⟩)
    · refine J_seq ?_
      refine J_cut' (S' := Bool) (G' := Unit) (fun s11 _ => [(3, .pointer (some ⟨b1, 0, none⟩)), (4, .pointer (some ⟨b2, 0, none⟩)), (5, .pointer (some ⟨b3, 0, none⟩)), (6, .pointer (some ⟨b4, 0, none⟩)), (7, .bool (decide (p2 = p0.Symbols))), (8, .func (.func 101) #[] #[.pointer (some ⟨b3, 0, none⟩), .pointer (some ⟨b2, 0, none⟩)]), (29, .bool s11)]) (fun s11 _ => [.rd v0_0 p0.Rules, .bx b1 28 [.int .i64 p0.Symbols, .int .i64 p0.States, v0_0], .bx b2 68 [.int .i64 p1.kind, .int .i64 p1.q, .int .i64 p1.half], .bx b3 2 [.int .i64 p2], .bx b4 118 [.int .i64 0, .int .i64 0, .int .i64 0, .int .i64 0, .int .i64 0, .bool false]]) ?_ (fun s11 g12 => ?_)
      · refine J_region ?_
        refine JL_q (wants_none rfl) rfl (ex_fieldAddr fi_68_0 rfl rfl) ?_
        refine JL_q (wants_none rfl) rfl (ex_load_bx 2 ti_2 rfl rfl rfl) ?_
        refine JL_q (wants_none rfl) rfl (ex_eql rfl rfl) ?_
        refine JL_q (wants_none rfl) rfl (ex_move rfl) ?_
        refine JL_cond (fun h13 => ?_) (fun h13 => ?_)
        · refine JL_q (wants_some rfl rfl rfl h13) rfl (ex_move rfl) ?_
          refine JL_q (wants_some rfl rfl rfl h13) rfl (ex_not rfl) ?_
          refine JL_q (wants_none rfl) rfl (ex_pick_true rfl h13 rfl) ?_
          refine JL_q (wants_none rfl) rfl (ex_assign rfl) ?_
          refine JL_nil ?_
          exact N_meet' () ⟨rfl, rfl, rfl, rfl, rfl, rfl, rfl, trivial⟩ [0, 1, 2, 3, 4] rfl rfl
        · refine JL_passed rfl rfl rfl h13 ?_
          refine JL_passed rfl rfl rfl h13 ?_
          refine JL_q (wants_none rfl) rfl (ex_pick_false rfl h13 rfl) ?_
          refine JL_q (wants_none rfl) rfl (ex_assign rfl) ?_
          refine JL_nil ?_
          exact N_meet' () ⟨rfl, rfl, rfl, rfl, rfl, rfl, rfl, trivial⟩ [0, 1, 2, 3, 4] rfl rfl
      · refine N_then ?_
        refine J_if rfl (fun h14 => ?_) (fun h14 => ?_)
        · refine J_seq ?_
          refine J_region ?_
          refine JL_q (wants_none rfl) rfl (ex_move rfl) ?_
          refine JL_q (wants_none rfl) rfl (ex_fieldAddr fi_68_2 rfl rfl) ?_
          refine JL_q (wants_none rfl) rfl (ex_load_bx 2 ti_2 rfl rfl rfl) ?_
          refine JL_bnd fun r15 hr16 => ?_
          refine JL_callv (args := [_, _, _]) (caps := [.pointer (some ⟨b3, 0, none⟩), .pointer (some ⟨b2, 0, none⟩)]) (wants_none rfl) rfl Try.call101 rfl rfl (Ca_of0 fun w hh => c_impl_foldAction_1 nowhere w (fun _ hk => hk.elim) _ _ _ _ _ (hh.bx_pa1 3 rfl (Rd.mk_int _ _ _) rfl rfl) _ _ (hh.bx_pa 2 rfl (GfoldPlace.rdmk (Rd.mk_int _ _ _) (Rd.mk_int _ _ _) (Rd.mk_int _ _ _)) rfl) _ hr16) (fun _ => ?_)
          refine JL_sk (wants_none rfl) (sk_store_bx' 4 ti_118 rfl rfl (fun w hh => (cv_aggs ⟨cv_int, cv_int, cv_int, cv_int, cv_int, cv_bool, trivial⟩)) rfl rfl rfl rfl) ?_
          refine JL_nil ?_
          refine N_then ?_
          refine J_ret ?_
          refine N_block_ret ?_
          refine N_then_ret ?_
          exact N_ret1 rfl (rv_cell 4 rfl rfl ti_118 rfl) (fun w hh => ⟨(), rfl, hh.sel [] rfl⟩)
        · refine J_seq ?_
          refine J_cut' (S' := Bool) (G' := Unit) (fun s17 _ => [(3, .pointer (some ⟨b1, 0, none⟩)), (4, .pointer (some ⟨b2, 0, none⟩)), (5, .pointer (some ⟨b3, 0, none⟩)), (6, .pointer (some ⟨b4, 0, none⟩)), (7, .bool (decide (p2 = p0.Symbols))), (8, .func (.func 101) #[] #[.pointer (some ⟨b3, 0, none⟩), .pointer (some ⟨b2, 0, none⟩)]), (41, .bool s17)]) (fun s17 _ => [.rd v0_0 p0.Rules, .bx b1 28 [.int .i64 p0.Symbols, .int .i64 p0.States, v0_0], .bx b2 68 [.int .i64 p1.kind, .int .i64 p1.q, .int .i64 p1.half], .bx b3 2 [.int .i64 p2], .bx b4 118 [.int .i64 0, .int .i64 0, .int .i64 0, .int .i64 0, .int .i64 0, .bool false]]) ?_ (fun s17 g18 => ?_)
          · refine J_region ?_
            refine JL_q (wants_none rfl) rfl (ex_fieldAddr fi_68_0 rfl rfl) ?_
            refine JL_q (wants_none rfl) rfl (ex_load_bx 2 ti_2 rfl rfl rfl) ?_
            refine JL_q (wants_none rfl) rfl (ex_eql rfl rfl) ?_
            refine JL_q (wants_none rfl) rfl (ex_move rfl) ?_
            refine JL_cond (fun h19 => ?_) (fun h19 => ?_)
            · refine JL_q (wants_some rfl rfl rfl h19) rfl (ex_move rfl) ?_
              refine JL_q (wants_none rfl) rfl (ex_pick_true rfl h19 rfl) ?_
              refine JL_q (wants_none rfl) rfl (ex_assign rfl) ?_
              refine JL_nil ?_
              exact N_meet' () ⟨rfl, rfl, rfl, rfl, rfl, rfl, rfl, trivial⟩ [0, 1, 2, 3, 4] rfl rfl
            · refine JL_passed rfl rfl rfl h19 ?_
              refine JL_q (wants_none rfl) rfl (ex_pick_false rfl h19 rfl) ?_
              refine JL_q (wants_none rfl) rfl (ex_assign rfl) ?_
              refine JL_nil ?_
              exact N_meet' () ⟨rfl, rfl, rfl, rfl, rfl, rfl, rfl, trivial⟩ [0, 1, 2, 3, 4] rfl rfl
          · refine N_then ?_
            refine J_if rfl (fun h20 => ?_) (fun h20 => ?_)
            · refine J_seq ?_
              refine J_region ?_
              refine JL_q (wants_none rfl) rfl (ex_move rfl) ?_
              refine JL_bnd fun r21 hr22 => ?_
              refine JL_callv (args := [_, _, _]) (caps := [.pointer (some ⟨b3, 0, none⟩), .pointer (some ⟨b2, 0, none⟩)]) (wants_none rfl) rfl Try.call101 rfl rfl (Ca_of0 fun w hh => c_impl_foldAction_1 nowhere w (fun _ hk => hk.elim) _ _ _ _ _ (hh.bx_pa1 3 rfl (Rd.mk_int _ _ _) rfl rfl) _ _ (hh.bx_pa 2 rfl (GfoldPlace.rdmk (Rd.mk_int _ _ _) (Rd.mk_int _ _ _) (Rd.mk_int _ _ _)) rfl) _ hr22) (fun _ => ?_)
              refine JL_sk (wants_none rfl) (sk_store_bx' 4 ti_118 rfl rfl (fun w hh => (cv_aggs ⟨cv_int, cv_int, cv_int, cv_int, cv_int, cv_bool, trivial⟩)) rfl rfl rfl rfl) ?_
              refine JL_nil ?_
              refine N_then ?_
              refine J_ret ?_
              refine N_block_ret ?_
              refine N_then_ret ?_
              exact N_ret1 rfl (rv_cell 4 rfl rfl ti_118 rfl) (fun w hh => ⟨(), rfl, hh.sel [] rfl⟩)
            · refine J_seq ?_
              refine J_region ?_
              refine JL_q (wants_none rfl) rfl (ex_fieldAddr fi_68_0 rfl rfl) ?_
              refine JL_q (wants_none rfl) rfl (ex_load_bx 2 ti_2 rfl rfl rfl) ?_
              refine JL_q (wants_none rfl) rfl (ex_eql rfl rfl) ?_
              refine JL_q (wants_none rfl) rfl (ex_assign rfl) ?_
              refine JL_nil ?_
              refine N_then ?_
              refine J_if rfl (fun h23 => ?_) (fun h23 => ?_)
              · refine J_seq ?_
                refine J_region ?_
                refine JL_q (wants_none rfl) rfl (ex_move rfl) ?_
                refine JL_bnd fun r24 hr25 => ?_
                refine JL_callv (args := [_, _, _]) (caps := [.pointer (some ⟨b3, 0, none⟩), .pointer (some ⟨b2, 0, none⟩)]) (wants_none rfl) rfl Try.call101 rfl rfl (Ca_of0 fun w hh => c_impl_foldAction_1 nowhere w (fun _ hk => hk.elim) _ _ _ _ _ (hh.bx_pa1 3 rfl (Rd.mk_int _ _ _) rfl rfl) _ _ (hh.bx_pa 2 rfl (GfoldPlace.rdmk (Rd.mk_int _ _ _) (Rd.mk_int _ _ _) (Rd.mk_int _ _ _)) rfl) _ hr25) (fun _ => ?_)
                refine JL_sk (wants_none rfl) (sk_store_bx' 4 ti_118 rfl rfl (fun w hh => (cv_aggs ⟨cv_int, cv_int, cv_int, cv_int, cv_int, cv_bool, trivial⟩)) rfl rfl rfl rfl) ?_
                refine JL_nil ?_
                refine N_then ?_
                refine J_ret ?_
                refine N_block_ret ?_
                refine N_then_ret ?_
                exact N_ret1 rfl (rv_cell 4 rfl rfl ti_118 rfl) (fun w hh => ⟨(), rfl, hh.sel [] rfl⟩)
              · refine J_seq ?_
                refine J_cut' (S' := Bool) (G' := Unit) (fun s26 _ => [(3, .pointer (some ⟨b1, 0, none⟩)), (4, .pointer (some ⟨b2, 0, none⟩)), (5, .pointer (some ⟨b3, 0, none⟩)), (6, .pointer (some ⟨b4, 0, none⟩)), (7, .bool (decide (p2 = p0.Symbols))), (8, .func (.func 101) #[] #[.pointer (some ⟨b3, 0, none⟩), .pointer (some ⟨b2, 0, none⟩)]), (56, .bool s26)]) (fun s26 _ => [.rd v0_0 p0.Rules, .bx b1 28 [.int .i64 p0.Symbols, .int .i64 p0.States, v0_0], .bx b2 68 [.int .i64 p1.kind, .int .i64 p1.q, .int .i64 p1.half], .bx b3 2 [.int .i64 p2], .bx b4 118 [.int .i64 0, .int .i64 0, .int .i64 0, .int .i64 0, .int .i64 0, .bool false]]) ?_ (fun s26 g27 => ?_)
                · refine J_region ?_
                  refine JL_q (wants_none rfl) rfl (ex_fieldAddr fi_68_0 rfl rfl) ?_
                  refine JL_q (wants_none rfl) rfl (ex_load_bx 2 ti_2 rfl rfl rfl) ?_
                  refine JL_q (wants_none rfl) rfl (ex_eql rfl rfl) ?_
                  refine JL_q (wants_none rfl) rfl (ex_move rfl) ?_
                  refine JL_cond (fun h28 => ?_) (fun h28 => ?_)
                  · refine JL_q (wants_some rfl rfl rfl h28) rfl (ex_move rfl) ?_
                    refine JL_q (wants_some rfl rfl rfl h28) rfl (ex_not rfl) ?_
                    refine JL_q (wants_none rfl) rfl (ex_pick_true rfl h28 rfl) ?_
                    refine JL_q (wants_none rfl) rfl (ex_assign rfl) ?_
                    refine JL_nil ?_
                    exact N_meet' () ⟨rfl, rfl, rfl, rfl, rfl, rfl, rfl, trivial⟩ [0, 1, 2, 3, 4] rfl rfl
                  · refine JL_passed rfl rfl rfl h28 ?_
                    refine JL_passed rfl rfl rfl h28 ?_
                    refine JL_q (wants_none rfl) rfl (ex_pick_false rfl h28 rfl) ?_
                    refine JL_q (wants_none rfl) rfl (ex_assign rfl) ?_
                    refine JL_nil ?_
                    exact N_meet' () ⟨rfl, rfl, rfl, rfl, rfl, rfl, rfl, trivial⟩ [0, 1, 2, 3, 4] rfl rfl
                · refine N_then ?_
                  refine J_if rfl (fun h29 => ?_) (fun h29 => ?_)
                  · refine J_seq ?_
                    refine J_region ?_
                    refine JL_q (wants_none rfl) rfl (ex_move rfl) ?_
                    refine JL_bnd fun r30 hr31 => ?_
                    refine JL_callv (args := [_, _, _]) (caps := [.pointer (some ⟨b3, 0, none⟩), .pointer (some ⟨b2, 0, none⟩)]) (wants_none rfl) rfl Try.call101 rfl rfl (Ca_of0 fun w hh => c_impl_foldAction_1 nowhere w (fun _ hk => hk.elim) _ _ _ _ _ (hh.bx_pa1 3 rfl (Rd.mk_int _ _ _) rfl rfl) _ _ (hh.bx_pa 2 rfl (GfoldPlace.rdmk (Rd.mk_int _ _ _) (Rd.mk_int _ _ _) (Rd.mk_int _ _ _)) rfl) _ hr31) (fun _ => ?_)
                    refine JL_sk (wants_none rfl) (sk_store_bx' 4 ti_118 rfl rfl (fun w hh => (cv_aggs ⟨cv_int, cv_int, cv_int, cv_int, cv_int, cv_bool, trivial⟩)) rfl rfl rfl rfl) ?_
                    refine JL_nil ?_
                    refine N_then ?_
                    refine J_ret ?_
                    refine N_block_ret ?_
                    refine N_then_ret ?_
                    exact N_ret1 rfl (rv_cell 4 rfl rfl ti_118 rfl) (fun w hh => ⟨(), rfl, hh.sel [] rfl⟩)
                  · refine J_seq ?_
                    refine J_cut' (S' := Bool) (G' := Unit) (fun s32 _ => [(3, .pointer (some ⟨b1, 0, none⟩)), (4, .pointer (some ⟨b2, 0, none⟩)), (5, .pointer (some ⟨b3, 0, none⟩)), (6, .pointer (some ⟨b4, 0, none⟩)), (7, .bool (decide (p2 = p0.Symbols))), (8, .func (.func 101) #[] #[.pointer (some ⟨b3, 0, none⟩), .pointer (some ⟨b2, 0, none⟩)]), (66, .bool s32)]) (fun s32 _ => [.rd v0_0 p0.Rules, .bx b1 28 [.int .i64 p0.Symbols, .int .i64 p0.States, v0_0], .bx b2 68 [.int .i64 p1.kind, .int .i64 p1.q, .int .i64 p1.half], .bx b3 2 [.int .i64 p2], .bx b4 118 [.int .i64 0, .int .i64 0, .int .i64 0, .int .i64 0, .int .i64 0, .bool false]]) ?_ (fun s32 g33 => ?_)
                    · refine J_region ?_
                      refine JL_q (wants_none rfl) rfl (ex_fieldAddr fi_68_0 rfl rfl) ?_
                      refine JL_q (wants_none rfl) rfl (ex_load_bx 2 ti_2 rfl rfl rfl) ?_
                      refine JL_q (wants_none rfl) rfl (ex_eql rfl rfl) ?_
                      refine JL_q (wants_none rfl) rfl (ex_move rfl) ?_
                      refine JL_cond (fun h34 => ?_) (fun h34 => ?_)
                      · refine JL_q (wants_some rfl rfl rfl h34) rfl (ex_move rfl) ?_
                        refine JL_q (wants_some rfl rfl rfl h34) rfl (ex_not rfl) ?_
                        refine JL_q (wants_none rfl) rfl (ex_pick_true rfl h34 rfl) ?_
                        refine JL_q (wants_none rfl) rfl (ex_assign rfl) ?_
                        refine JL_nil ?_
                        exact N_meet' () ⟨rfl, rfl, rfl, rfl, rfl, rfl, rfl, trivial⟩ [0, 1, 2, 3, 4] rfl rfl
                      · refine JL_passed rfl rfl rfl h34 ?_
                        refine JL_passed rfl rfl rfl h34 ?_
                        refine JL_q (wants_none rfl) rfl (ex_pick_false rfl h34 rfl) ?_
                        refine JL_q (wants_none rfl) rfl (ex_assign rfl) ?_
                        refine JL_nil ?_
                        exact N_meet' () ⟨rfl, rfl, rfl, rfl, rfl, rfl, rfl, trivial⟩ [0, 1, 2, 3, 4] rfl rfl
                    · refine N_then ?_
                      refine J_if rfl (fun h35 => ?_) (fun h35 => ?_)
                      · refine J_seq ?_
                        refine J_region ?_
                        refine JL_q (wants_none rfl) rfl (ex_move rfl) ?_
                        refine JL_bnd fun r36 hr37 => ?_
                        refine JL_callv (args := [_, _, _]) (caps := [.pointer (some ⟨b3, 0, none⟩), .pointer (some ⟨b2, 0, none⟩)]) (wants_none rfl) rfl Try.call101 rfl rfl (Ca_of0 fun w hh => c_impl_foldAction_1 nowhere w (fun _ hk => hk.elim) _ _ _ _ _ (hh.bx_pa1 3 rfl (Rd.mk_int _ _ _) rfl rfl) _ _ (hh.bx_pa 2 rfl (GfoldPlace.rdmk (Rd.mk_int _ _ _) (Rd.mk_int _ _ _) (Rd.mk_int _ _ _)) rfl) _ hr37) (fun _ => ?_)
                        refine JL_sk (wants_none rfl) (sk_store_bx' 4 ti_118 rfl rfl (fun w hh => (cv_aggs ⟨cv_int, cv_int, cv_int, cv_int, cv_int, cv_bool, trivial⟩)) rfl rfl rfl rfl) ?_
                        refine JL_nil ?_
                        refine N_then ?_
                        refine J_ret ?_
                        refine N_block_ret ?_
                        refine N_then_ret ?_
                        exact N_ret1 rfl (rv_cell 4 rfl rfl ti_118 rfl) (fun w hh => ⟨(), rfl, hh.sel [] rfl⟩)
                      · refine J_seq ?_
                        refine J_cut' (S' := Bool) (G' := Unit) (fun s38 _ => [(3, .pointer (some ⟨b1, 0, none⟩)), (4, .pointer (some ⟨b2, 0, none⟩)), (5, .pointer (some ⟨b3, 0, none⟩)), (6, .pointer (some ⟨b4, 0, none⟩)), (8, .func (.func 101) #[] #[.pointer (some ⟨b3, 0, none⟩), .pointer (some ⟨b2, 0, none⟩)]), (76, .bool s38)]) (fun s38 _ => [.rd v0_0 p0.Rules, .bx b1 28 [.int .i64 p0.Symbols, .int .i64 p0.States, v0_0], .bx b2 68 [.int .i64 p1.kind, .int .i64 p1.q, .int .i64 p1.half], .bx b3 2 [.int .i64 p2], .bx b4 118 [.int .i64 0, .int .i64 0, .int .i64 0, .int .i64 0, .int .i64 0, .bool false]]) ?_ (fun s38 g39 => ?_)
                        · refine J_region ?_
                          refine JL_q (wants_none rfl) rfl (ex_fieldAddr fi_68_0 rfl rfl) ?_
                          refine JL_q (wants_none rfl) rfl (ex_load_bx 2 ti_2 rfl rfl rfl) ?_
                          refine JL_q (wants_none rfl) rfl (ex_eql rfl rfl) ?_
                          refine JL_q (wants_none rfl) rfl (ex_move rfl) ?_
                          refine JL_cond (fun h40 => ?_) (fun h40 => ?_)
                          · refine JL_q (wants_some rfl rfl rfl h40) rfl (ex_move rfl) ?_
                            refine JL_q (wants_none rfl) rfl (ex_pick_true rfl h40 rfl) ?_
                            refine JL_q (wants_none rfl) rfl (ex_assign rfl) ?_
                            refine JL_nil ?_
                            exact N_meet' () ⟨rfl, rfl, rfl, rfl, rfl, rfl, trivial⟩ [0, 1, 2, 3, 4] rfl rfl
                          · refine JL_passed rfl rfl rfl h40 ?_
                            refine JL_q (wants_none rfl) rfl (ex_pick_false rfl h40 rfl) ?_
                            refine JL_q (wants_none rfl) rfl (ex_assign rfl) ?_
                            refine JL_nil ?_
                            exact N_meet' () ⟨rfl, rfl, rfl, rfl, rfl, rfl, trivial⟩ [0, 1, 2, 3, 4] rfl rfl
                        · refine N_then ?_
                          refine J_if rfl (fun h41 => ?_) (fun h41 => ?_)
                          · refine J_seq ?_
                            refine J_region ?_
                            refine JL_q (wants_none rfl) rfl (ex_move rfl) ?_
                            refine JL_bnd fun r42 hr43 => ?_
                            refine JL_callv (args := [_, _, _]) (caps := [.pointer (some ⟨b3, 0, none⟩), .pointer (some ⟨b2, 0, none⟩)]) (wants_none rfl) rfl Try.call101 rfl rfl (Ca_of0 fun w hh => c_impl_foldAction_1 nowhere w (fun _ hk => hk.elim) _ _ _ _ _ (hh.bx_pa1 3 rfl (Rd.mk_int _ _ _) rfl rfl) _ _ (hh.bx_pa 2 rfl (GfoldPlace.rdmk (Rd.mk_int _ _ _) (Rd.mk_int _ _ _) (Rd.mk_int _ _ _)) rfl) _ hr43) (fun _ => ?_)
                            refine JL_sk (wants_none rfl) (sk_store_bx' 4 ti_118 rfl rfl (fun w hh => (cv_aggs ⟨cv_int, cv_int, cv_int, cv_int, cv_int, cv_bool, trivial⟩)) rfl rfl rfl rfl) ?_
                            refine JL_nil ?_
                            refine N_then ?_
                            refine J_ret ?_
                            refine N_block_ret ?_
                            refine N_then_ret ?_
                            exact N_ret1 rfl (rv_cell 4 rfl rfl ti_118 rfl) (fun w hh => ⟨(), rfl, hh.sel [] rfl⟩)
                          · refine J_seq ?_
                            refine J_region ?_
                            refine JL_q (wants_none rfl) rfl (ex_fieldAddr fi_68_0 rfl rfl) ?_
                            refine JL_q (wants_none rfl) rfl (ex_load_bx 2 ti_2 rfl rfl rfl) ?_
                            refine JL_q (wants_none rfl) rfl (ex_eql rfl rfl) ?_
                            refine JL_q (wants_none rfl) rfl (ex_assign rfl) ?_
                            refine JL_nil ?_
                            refine N_then ?_
                            refine J_if rfl (fun h44 => ?_) (fun h44 => ?_)
                            · refine J_seq ?_
                              refine J_region ?_
                              refine JL_q (wants_none rfl) rfl (ex_load_bx_agg 1 ti_28 rfl rfl rfl rfl) ?_
                              refine JL_q (wants_none rfl) rfl (ex_fieldAddr fi_68_1 rfl rfl) ?_
                              refine JL_q (wants_none rfl) rfl (ex_load_bx 2 ti_2 rfl rfl rfl) ?_
                              refine JL_q (wants_none rfl) rfl (ex_load_bx 3 ti_2 rfl rfl rfl) ?_
                              refine JL_bnd fun r45 hr46 => ?_
                              refine JL_call (wants_none rfl) rfl Try.call102 rfl (Ca_of0 fun w hh => c_impl_foldMain _ w (fun _ hk => hk.elim) _ _ (GMachine.rdmk (Rd.mk_int _ _ _) (Rd.mk_int _ _ _) (hh.rd0 0 rfl)) _ _ _ _ hr46) (fun _ => ?_)
                              refine JL_sk (wants_none rfl) (sk_store_bx' 4 ti_118 rfl rfl (fun w hh => (cv_aggs ⟨cv_int, cv_int, cv_int, cv_int, cv_int, cv_bool, trivial⟩)) rfl rfl rfl rfl) ?_
                              refine JL_nil ?_
                              refine N_then ?_
                              refine J_ret ?_
                              refine N_block_ret ?_
                              refine N_then_ret ?_
                              exact N_ret1 rfl (rv_cell 4 rfl rfl ti_118 rfl) (fun w hh => ⟨(), rfl, hh.sel [] rfl⟩)
                            · refine J_skip ?_
                              refine N_block ?_
                              refine N_then ?_
                              refine J_seq ?_
                              refine J_region ?_
                              refine JL_q (wants_none rfl) rfl (ex_build si_118 rfl (.cons fi_118_3 rfl rfl .nil) (fun w hh => ⟨cv_bool, trivial⟩)) ?_
                              refine JL_sk (wants_none rfl) (sk_store_bx' 4 ti_118 rfl rfl (fun w hh => (cv_aggs ⟨cv_int, cv_int, cv_int, cv_int, cv_int, cv_bool, trivial⟩)) rfl rfl rfl rfl) ?_
                              refine JL_nil ?_
                              refine N_then ?_
                              refine J_ret ?_
                              exact N_ret1 rfl (rv_cell 4 rfl rfl ti_118 rfl) (fun w hh => ⟨(), rfl, hh.sel [] rfl⟩)

set_option maxHeartbeats 40000000 in
theorem c_impl_folded_1 (A : Nat → Prop) (w : World) (hA : ∀ k, A k → k < w.heap.size) (v0_ : Value) (p0 : GfoldPlace) (hp0 : Rd A w v0_ p0) (p1 : Int) (v2_ : Value) (p2 : GMachine) (hp2 : RdA A w.heap.size w v2_ p2) (r : Gaction_foldPlace) (hr : F_impl_folded_1 p0 p1 p2 = some r) :
    Con Try.prog 80 [v0_, .int .i64 p1, v2_] A w (fun x_ : Unit => .agg #[.int .i64 r.write, .int .i64 r.move, .int .i64 r.next_kind, .int .i64 r.next_q, .int .i64 r.next_half, .bool r.none]) (fun x_ => []) := by
  obtain rfl := GfoldPlace.open hp0
  refine Con_of (v := fun (r : Gaction_foldPlace) (x_ : Unit) => .agg #[.int .i64 r.write, .int .i64 r.move, .int .i64 r.next_kind, .int .i64 r.next_q, .int .i64 r.next_half, .bool r.none]) (fs := fun r x_ => []) Try.func80 rfl Try.ntmps80 rfl ((SH.start hA).start_pa' rfl hp2) rfl ?_ hr
  unfold F_impl_folded_1
  refine J_seq ?_
  refine J_region ?_
  refine JL_st (wants_none rfl) rfl (st_box' rfl (fun w hh => (cv_aggs ⟨cv_int, cv_int, cv_int, trivial⟩))) (fun b1 => ?_)
  refine JL_st (wants_none rfl) rfl (st_alloc zi_118 rfl) (fun b2 => ?_)
  refine JL_nil ?_
  refine N_then ?_
  refine J_seq ?_
  refine J_region ?_
  refine JL_st (wants_none rfl) rfl (st_load_pa_o 2 (GMachine.opens _) ti_28 rfl rfl) (fun v3 => ?_)
  refine JL_q (wants_none rfl) rfl (ex_load_bx_agg 2 ti_68 rfl rfl rfl rfl) ?_
  refine JL_q (wants_none rfl) rfl (ex_move rfl) ?_
  refine JL_bnd fun r4 hr5 => ?_
  refine JL_call (wants_none rfl) rfl Try.call81 rfl (Ca_of0 fun w hh => c_impl_foldAction _ w (fun _ hk => hk.elim) _ _ (GMachine.rdmk (Rd.mk_int _ _ _) (Rd.mk_int _ _ _) (hh.rd0 0 rfl)) _ _ (GfoldPlace.rdmk (Rd.mk_int _ _ _) (Rd.mk_int _ _ _) (Rd.mk_int _ _ _)) _ _ hr5) (fun _ => ?_)
  refine JL_sk (wants_none rfl) (sk_store_bx' 1 ti_118 rfl rfl (fun w hh => (cv_aggs ⟨cv_int, cv_int, cv_int, cv_int, cv_int, cv_bool, trivial⟩)) rfl rfl rfl rfl) ?_
  refine JL_nil ?_
  refine N_then ?_
  refine J_ret ?_
  exact N_ret1 rfl (rv_cell 1 rfl rfl ti_118 rfl) (fun w hh => ⟨(), rfl, hh.sel [] rfl⟩)

set_option maxHeartbeats 40000000 in
theorem c_impl_size_impl_foldPlace (A : Nat → Prop) (w : World) (hA : ∀ k, A k → k < w.heap.size) (v0_ : Value) (p0 : (List GfoldPlace)) (hp0 : Rd A w v0_ p0) (r : Int) (hr : F_impl_size_impl_foldPlace p0 = some r) :
    Con Try.prog 100 [v0_] A w (fun x_ : Unit => .int .i64 r) (fun x_ => []) := by
  refine Con_of (v := fun (r : Int) (x_ : Unit) => .int .i64 r) (fs := fun r x_ => []) Try.func100 rfl Try.ntmps100 rfl ((SH.start hA).start_rd rfl hp0) rfl ?_ hr
  unfold F_impl_size_impl_foldPlace
  refine J_seq ?_
  refine J_region ?_
  refine JL_q (wants_none rfl) rfl (ex_assign rfl) ?_
  refine JL_nil ?_
  refine N_then ?_
  refine J_seq ?_
  refine J_region ?_
  refine JL_q (wants_none rfl) rfl (ex_move rfl) ?_
  refine JL_q (wants_none rfl) rfl (ex_len_rd 0 Try.underlying112 rfl rfl) ?_
  refine JL_q (wants_none rfl) rfl (ex_assign rfl) ?_
  refine JL_nil ?_
  refine N_then ?_
  refine J_ret ?_
  exact N_ret1 rfl (rv_tmp rfl) (fun w hh => ⟨(), rfl, hh.sel [] rfl⟩)

end Go.Proofs.Ytceimgjcikkadaa
