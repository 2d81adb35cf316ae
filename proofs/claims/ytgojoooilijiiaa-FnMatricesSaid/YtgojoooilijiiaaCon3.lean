/-
  Each function of the program computes what its plain function says: printed by program. No condition.
-/
import Derived.Test.YtgojoooilijiiaaFn
import Derived.Test.YtgojoooilijiiaaInf
namespace Go.Proofs.Ytgojoooilijiiaa
open Go Go.Tc Go.Fn
set_option linter.unusedVariables false

set_option maxHeartbeats 40000000 in
theorem c_impl_size_impl_Domino (A : Nat → Prop) (w : World) (hA : ∀ k, A k → k < w.heap.size) (v0_ : Value) (p0 : (List GDomino)) (hp0 : Rd A w v0_ p0) (r : Int) (hr : F_impl_size_impl_Domino p0 = some r) :
    Con Try.prog 105 [v0_] A w (fun x_ : Unit => .int .i64 r) (fun x_ => []) := by
  refine Con_of (v := fun (r : Int) (x_ : Unit) => .int .i64 r) (fs := fun r x_ => []) Try.func105 rfl Try.ntmps105 rfl ((SH.start hA).start_rd rfl hp0) rfl ?_ hr
  unfold F_impl_size_impl_Domino
  refine J_seq ?_
  refine J_region ?_
  refine JL_q (wants_none rfl) rfl (ex_assign rfl) ?_
  refine JL_nil ?_
  refine N_then ?_
  refine J_seq ?_
  refine J_region ?_
  refine JL_q (wants_none rfl) rfl (ex_move rfl) ?_
  refine JL_q (wants_none rfl) rfl (ex_len_rd 0 Try.underlying38 rfl rfl) ?_
  refine JL_q (wants_none rfl) rfl (ex_assign rfl) ?_
  refine JL_nil ?_
  refine N_then ?_
  refine J_ret ?_
  exact N_ret1 rfl (rv_tmp rfl) (fun w hh => ⟨(), rfl, hh.sel [] rfl⟩)

set_option maxHeartbeats 40000000 in
theorem c_impl_within (A : Nat → Prop) (w : World) (hA : ∀ k, A k → k < w.heap.size) (p0 : Int) (p1 : Int) (p2 : Int) (r : Bool) (hr : F_impl_within p0 p1 p2 = some r) :
    Con Try.prog 44 [.int .i64 p0, .int .i64 p1, .int .i64 p2] A w (fun x_ : Unit => .bool r) (fun x_ => []) := by
  refine Con_of (v := fun (r : Bool) (x_ : Unit) => .bool r) (fs := fun r x_ => []) Try.func44 rfl Try.ntmps44 rfl (SH.start hA) rfl ?_ hr
  unfold F_impl_within
  refine J_seq ?_
  refine J_region ?_
  refine JL_q (wants_none rfl) rfl (ex_assign rfl) ?_
  refine JL_nil ?_
  refine N_then ?_
  refine J_seq ?_
  refine J_region ?_
  refine JL_q (wants_none rfl) rfl (ex_move rfl) ?_
  refine JL_q (wants_none rfl) rfl (ex_move rfl) ?_
  refine JL_q (wants_none rfl) rfl (ex_leq rfl rfl) ?_
  refine JL_q (wants_none rfl) rfl (ex_move rfl) ?_
  refine JL_cond (fun h1 => ?_) (fun h1 => ?_)
  · refine JL_q (wants_some rfl rfl rfl h1) rfl (ex_move rfl) ?_
    refine JL_q (wants_some rfl rfl rfl h1) rfl (ex_move rfl) ?_
    refine JL_q (wants_some rfl rfl rfl h1) rfl (ex_leq rfl rfl) ?_
    refine JL_q (wants_none rfl) rfl (ex_pick_true rfl h1 rfl) ?_
    refine JL_q (wants_none rfl) rfl (ex_assign rfl) ?_
    refine JL_nil ?_
    refine N_then ?_
    refine J_ret ?_
    exact N_ret1 rfl (rv_tmp rfl) (fun w hh => ⟨(), rfl, hh.sel [] rfl⟩)
  · refine JL_passed rfl rfl rfl h1 ?_
    refine JL_passed rfl rfl rfl h1 ?_
    refine JL_passed rfl rfl rfl h1 ?_
    refine JL_q (wants_none rfl) rfl (ex_pick_false rfl h1 rfl) ?_
    refine JL_q (wants_none rfl) rfl (ex_assign rfl) ?_
    refine JL_nil ?_
    refine N_then ?_
    refine J_ret ?_
    exact N_ret1 rfl (rv_tmp rfl) (fun w hh => ⟨(), rfl, hh.sel [] rfl⟩)

set_option maxHeartbeats 40000000 in
theorem c_slices_IndexFunc_Simpl_Domino_impl_Domino (A : Nat → Prop) (w : World) (hA : ∀ k, A k → k < w.heap.size) (v0_ : Value) (p0 : (List GDomino)) (hp0 : Rd A w v0_ p0) (v1_ : Value) (p1 : (GDomino → Option Bool)) (hp1 : Clo Try.prog w v1_ p1 .bool) (r : Int) (hr : F_slices_IndexFunc_Simpl_Domino_impl_Domino p0 p1 = some r) :
    Con Try.prog 144 [v0_, v1_] A w (fun x_ : Unit => .int .i64 r) (fun x_ => []) := by
  refine Con_of (v := fun (r : Int) (x_ : Unit) => .int .i64 r) (fs := fun r x_ => []) Try.func144 rfl Try.ntmps144 rfl ((SH.start hA).start_rd rfl hp0) rfl ?_ hr
  unfold F_slices_IndexFunc_Simpl_Domino_impl_Domino
  refine J_seq ?_
  refine J_region ?_
  refine JL_q (wants_none rfl) rfl (ex_assign rfl) ?_
  refine JL_nil ?_
  refine N_then ?_
  refine J_seq ?_
  refine J_seq ?_
  refine J_region ?_
  refine JL_q (wants_none rfl) rfl (ex_move rfl) ?_
  refine JL_q (wants_none rfl) rfl (ex_len_rd 0 Try.underlying38 rfl rfl) ?_
  refine JL_q (wants_none rfl) rfl (ex_move rfl) ?_
  refine JL_nil ?_
  refine N_then ?_
  refine J_loop' (S := Int) (G := Unit) (F_slices_IndexFunc_Simpl_Domino_impl_Domino_L1 p0 p1) (fun s1 _ => [(0, v0_), (1, v1_), (7, .int .i64 (p0.length : Int)), (8, .int .i64 s1)]) (fun s1 _ => [.rd v0_ p0]) 0 () ⟨rfl, rfl, rfl, rfl, trivial⟩ [0] rfl rfl (fun s1 g2 => ?_) (fun s1 g2 => ?_)
  · unfold F_slices_IndexFunc_Simpl_Domino_impl_Domino_L1
    refine J_seq ?_
    refine J_region ?_
    refine JL_q (wants_none rfl) rfl (ex_lss rfl rfl) ?_
    refine JL_nil ?_
    refine N_then ?_
    refine J_seq ?_
    refine J_if rfl (fun h3 => ?_) (fun h3 => ?_)
    · refine J_skip ?_
      refine N_then ?_
      refine J_seq ?_
      refine J_block ?_
      refine J_seq ?_
      refine J_region ?_
      refine JL_q (wants_none rfl) rfl (ex_move rfl) ?_
      refine JL_q (wants_none rfl) rfl (ex_assign rfl) ?_
      refine JL_nil ?_
      refine N_then ?_
      refine J_seq ?_
      refine J_region ?_
      refine JL_q (wants_none rfl) rfl (ex_move rfl) ?_
      refine JL_q (wants_none rfl) rfl (ex_move rfl) ?_
      refine JL_q (wants_none rfl) rfl (ex_move rfl) ?_
      refine JL_bnd fun y4 hy5 => ?_
      refine JL_st (wants_none rfl) rfl (st_index 0 Try.underlying38 ti_50 rfl rfl rfl hy5) (fun q6 => ?_)
      refine JL_st (wants_none rfl) rfl (st_load_pt_o 0 (GDomino.opens _) ti_50 rfl rfl) (fun v7 => ?_)
      refine JL_bnd fun r8 hr9 => ?_
      refine JL_clo (wants_none rfl) rfl hp1 rfl rfl (fun w hh => (GDomino.rdmk (hh.rd0 0 rfl) (hh.rd0 1 rfl))) hr9 ?_
      refine JL_nil ?_
      refine N_then ?_
      refine J_if rfl (fun h10 => ?_) (fun h10 => ?_)
      · refine J_seq ?_
        refine J_region ?_
        refine JL_q (wants_none rfl) rfl (ex_move rfl) ?_
        refine JL_q (wants_none rfl) rfl (ex_assign rfl) ?_
        refine JL_nil ?_
        refine N_then ?_
        refine J_ret ?_
        refine N_block_ret ?_
        refine N_then_ret ?_
        refine N_round_ret ?_
        refine N_then_ret ?_
        exact N_ret1 rfl (rv_tmp rfl) (fun w hh => ⟨(), rfl, hh.sel [] rfl⟩)
      · refine J_skip ?_
        refine N_block ?_
        refine N_then ?_
        refine J_region ?_
        refine JL_q (wants_none rfl) rfl (ex_add rfl rfl) ?_
        refine JL_q (wants_none rfl) rfl (ex_move rfl) ?_
        refine JL_nil ?_
        exact N_next' () ⟨rfl, rfl, rfl, rfl, trivial⟩ [3] rfl rfl
    · refine J_exit ?_
      refine N_then_exit ?_
      exact N_break' () ⟨rfl, rfl, rfl, rfl, trivial⟩ [0] rfl rfl
  · refine N_then ?_
    refine J_seq ?_
    refine J_region ?_
    refine JL_q (wants_none rfl) rfl (ex_assign rfl) ?_
    refine JL_nil ?_
    refine N_then ?_
    refine J_ret ?_
    exact N_ret1 rfl (rv_tmp rfl) (fun w hh => ⟨(), rfl, hh.sel [] rfl⟩)

set_option maxHeartbeats 40000000 in
theorem c_slices_ContainsFunc_Simpl_Domino_impl_Domino (A : Nat → Prop) (w : World) (hA : ∀ k, A k → k < w.heap.size) (v0_ : Value) (p0 : (List GDomino)) (hp0 : Rd A w v0_ p0) (v1_ : Value) (p1 : (GDomino → Option Bool)) (hp1 : Clo Try.prog w v1_ p1 .bool) (r : Bool) (hr : F_slices_ContainsFunc_Simpl_Domino_impl_Domino p0 p1 = some r) :
    Con Try.prog 106 [v0_, v1_] A w (fun x_ : Unit => .bool r) (fun x_ => []) := by
  refine Con_of (v := fun (r : Bool) (x_ : Unit) => .bool r) (fs := fun r x_ => []) Try.func106 rfl Try.ntmps106 rfl ((SH.start hA).start_rd rfl hp0) rfl ?_ hr
  unfold F_slices_ContainsFunc_Simpl_Domino_impl_Domino
  refine J_seq ?_
  refine J_region ?_
  refine JL_q (wants_none rfl) rfl (ex_assign rfl) ?_
  refine JL_nil ?_
  refine N_then ?_
  refine J_seq ?_
  refine J_region ?_
  refine JL_q (wants_none rfl) rfl (ex_move rfl) ?_
  refine JL_q (wants_none rfl) rfl (ex_move rfl) ?_
  refine JL_bnd fun r1 hr2 => ?_
  refine JL_call (wants_none rfl) rfl Try.call144 rfl (Ca_of0 fun w hh => c_slices_IndexFunc_Simpl_Domino_impl_Domino _ w (fun _ hk => hk.elim) _ _ (hh.rd0 0 rfl) _ _ (hp1.later hh.below) _ hr2) (fun _ => ?_)
  refine JL_q (wants_none rfl) rfl (ex_geq rfl rfl) ?_
  refine JL_q (wants_none rfl) rfl (ex_assign rfl) ?_
  refine JL_nil ?_
  refine N_then ?_
  refine J_ret ?_
  exact N_ret1 rfl (rv_tmp rfl) (fun w hh => ⟨(), rfl, hh.sel [] rfl⟩)

set_option maxHeartbeats 40000000 in
theorem c_slices_IndexFunc_SSint64_Sint64 (A : Nat → Prop) (w : World) (hA : ∀ k, A k → k < w.heap.size) (v0_ : Value) (p0 : (List (List Int))) (hp0 : Rd A w v0_ p0) (v1_ : Value) (p1 : ((List Int) → Option Bool)) (hp1 : Clo Try.prog w v1_ p1 .bool) (r : Int) (hr : F_slices_IndexFunc_SSint64_Sint64 p0 p1 = some r) :
    Con Try.prog 164 [v0_, v1_] A w (fun x_ : Unit => .int .i64 r) (fun x_ => []) := by
  refine Con_of (v := fun (r : Int) (x_ : Unit) => .int .i64 r) (fs := fun r x_ => []) Try.func164 rfl Try.ntmps164 rfl ((SH.start hA).start_rd rfl hp0) rfl ?_ hr
  unfold F_slices_IndexFunc_SSint64_Sint64
  refine J_seq ?_
  refine J_region ?_
  refine JL_q (wants_none rfl) rfl (ex_assign rfl) ?_
  refine JL_nil ?_
  refine N_then ?_
  refine J_seq ?_
  refine J_seq ?_
  refine J_region ?_
  refine JL_q (wants_none rfl) rfl (ex_move rfl) ?_
  refine JL_q (wants_none rfl) rfl (ex_len_rd 0 Try.underlying41 rfl rfl) ?_
  refine JL_q (wants_none rfl) rfl (ex_move rfl) ?_
  refine JL_nil ?_
  refine N_then ?_
  refine J_loop' (S := Int) (G := Unit) (F_slices_IndexFunc_SSint64_Sint64_L1 p0 p1) (fun s1 _ => [(0, v0_), (1, v1_), (7, .int .i64 (p0.length : Int)), (8, .int .i64 s1)]) (fun s1 _ => [.rd v0_ p0]) 0 () ⟨rfl, rfl, rfl, rfl, trivial⟩ [0] rfl rfl (fun s1 g2 => ?_) (fun s1 g2 => ?_)
  · unfold F_slices_IndexFunc_SSint64_Sint64_L1
    refine J_seq ?_
    refine J_region ?_
    refine JL_q (wants_none rfl) rfl (ex_lss rfl rfl) ?_
    refine JL_nil ?_
    refine N_then ?_
    refine J_seq ?_
    refine J_if rfl (fun h3 => ?_) (fun h3 => ?_)
    · refine J_skip ?_
      refine N_then ?_
      refine J_seq ?_
      refine J_block ?_
      refine J_seq ?_
      refine J_region ?_
      refine JL_q (wants_none rfl) rfl (ex_move rfl) ?_
      refine JL_q (wants_none rfl) rfl (ex_assign rfl) ?_
      refine JL_nil ?_
      refine N_then ?_
      refine J_seq ?_
      refine J_region ?_
      refine JL_q (wants_none rfl) rfl (ex_move rfl) ?_
      refine JL_q (wants_none rfl) rfl (ex_move rfl) ?_
      refine JL_q (wants_none rfl) rfl (ex_move rfl) ?_
      refine JL_bnd fun y4 hy5 => ?_
      refine JL_st (wants_none rfl) rfl (st_index 0 Try.underlying41 ti_27 rfl rfl rfl hy5) (fun q6 => ?_)
      refine JL_st (wants_none rfl) rfl (st_load_pt_o 0 (opens_sl _) ti_27 rfl rfl) (fun v7 => ?_)
      refine JL_bnd fun r8 hr9 => ?_
      refine JL_clo (wants_none rfl) rfl hp1 rfl rfl (fun w hh => (hh.rd0 0 rfl)) hr9 ?_
      refine JL_nil ?_
      refine N_then ?_
      refine J_if rfl (fun h10 => ?_) (fun h10 => ?_)
      · refine J_seq ?_
        refine J_region ?_
        refine JL_q (wants_none rfl) rfl (ex_move rfl) ?_
        refine JL_q (wants_none rfl) rfl (ex_assign rfl) ?_
        refine JL_nil ?_
        refine N_then ?_
        refine J_ret ?_
        refine N_block_ret ?_
        refine N_then_ret ?_
        refine N_round_ret ?_
        refine N_then_ret ?_
        exact N_ret1 rfl (rv_tmp rfl) (fun w hh => ⟨(), rfl, hh.sel [] rfl⟩)
      · refine J_skip ?_
        refine N_block ?_
        refine N_then ?_
        refine J_region ?_
        refine JL_q (wants_none rfl) rfl (ex_add rfl rfl) ?_
        refine JL_q (wants_none rfl) rfl (ex_move rfl) ?_
        refine JL_nil ?_
        exact N_next' () ⟨rfl, rfl, rfl, rfl, trivial⟩ [2] rfl rfl
    · refine J_exit ?_
      refine N_then_exit ?_
      exact N_break' () ⟨rfl, rfl, rfl, rfl, trivial⟩ [0] rfl rfl
  · refine N_then ?_
    refine J_seq ?_
    refine J_region ?_
    refine JL_q (wants_none rfl) rfl (ex_assign rfl) ?_
    refine JL_nil ?_
    refine N_then ?_
    refine J_ret ?_
    exact N_ret1 rfl (rv_tmp rfl) (fun w hh => ⟨(), rfl, hh.sel [] rfl⟩)

set_option maxHeartbeats 40000000 in
theorem c_slices_ContainsFunc_SSint64_Sint64 (A : Nat → Prop) (w : World) (hA : ∀ k, A k → k < w.heap.size) (v0_ : Value) (p0 : (List (List Int))) (hp0 : Rd A w v0_ p0) (v1_ : Value) (p1 : ((List Int) → Option Bool)) (hp1 : Clo Try.prog w v1_ p1 .bool) (r : Bool) (hr : F_slices_ContainsFunc_SSint64_Sint64 p0 p1 = some r) :
    Con Try.prog 147 [v0_, v1_] A w (fun x_ : Unit => .bool r) (fun x_ => []) := by
  refine Con_of (v := fun (r : Bool) (x_ : Unit) => .bool r) (fs := fun r x_ => []) Try.func147 rfl Try.ntmps147 rfl ((SH.start hA).start_rd rfl hp0) rfl ?_ hr
  unfold F_slices_ContainsFunc_SSint64_Sint64
  refine J_seq ?_
  refine J_region ?_
  refine JL_q (wants_none rfl) rfl (ex_assign rfl) ?_
  refine JL_nil ?_
  refine N_then ?_
  refine J_seq ?_
  refine J_region ?_
  refine JL_q (wants_none rfl) rfl (ex_move rfl) ?_
  refine JL_q (wants_none rfl) rfl (ex_move rfl) ?_
  refine JL_bnd fun r1 hr2 => ?_
  refine JL_call (wants_none rfl) rfl Try.call164 rfl (Ca_of0 fun w hh => c_slices_IndexFunc_SSint64_Sint64 _ w (fun _ hk => hk.elim) _ _ (hh.rd0 0 rfl) _ _ (hp1.later hh.below) _ hr2) (fun _ => ?_)
  refine JL_q (wants_none rfl) rfl (ex_geq rfl rfl) ?_
  refine JL_q (wants_none rfl) rfl (ex_assign rfl) ?_
  refine JL_nil ?_
  refine N_then ?_
  refine J_ret ?_
  exact N_ret1 rfl (rv_tmp rfl) (fun w hh => ⟨(), rfl, hh.sel [] rfl⟩)

set_option maxHeartbeats 40000000 in
theorem c_impl_allWithin (A : Nat → Prop) (w : World) (hA : ∀ k, A k → k < w.heap.size) (v0_ : Value) (p0 : (List Int)) (hp0 : Rd A w v0_ p0) (p1 : Int) (p2 : Int) (r : Bool) (hr : F_impl_allWithin p0 p1 p2 = some r) :
    Con Try.prog 108 [v0_, .int .i64 p1, .int .i64 p2] A w (fun x_ : Unit => .bool r) (fun x_ => []) := by
  refine Con_of (v := fun (r : Bool) (x_ : Unit) => .bool r) (fs := fun r x_ => []) Try.func108 rfl Try.ntmps108 rfl ((SH.start hA).start_rd rfl hp0) rfl ?_ hr
  unfold F_impl_allWithin
  refine J_seq ?_
  refine J_region ?_
  refine JL_q (wants_none rfl) rfl (ex_assign rfl) ?_
  refine JL_nil ?_
  refine N_then ?_
  refine J_seq ?_
  refine J_seq ?_
  refine J_region ?_
  refine JL_q (wants_none rfl) rfl (ex_move rfl) ?_
  refine JL_q (wants_none rfl) rfl (ex_len_rd 0 Try.underlying27 rfl rfl) ?_
  refine JL_q (wants_none rfl) rfl (ex_move rfl) ?_
  refine JL_nil ?_
  refine N_then ?_
  refine J_loop' (S := Int) (G := Unit) (F_impl_allWithin_L1 p0 p1 p2) (fun s1 _ => [(1, .int .i64 p1), (2, .int .i64 p2), (9, v0_), (10, .int .i64 (p0.length : Int)), (11, .int .i64 s1)]) (fun s1 _ => [.rd v0_ p0]) 0 () ⟨rfl, rfl, rfl, rfl, rfl, trivial⟩ [0] rfl rfl (fun s1 g2 => ?_) (fun s1 g2 => ?_)
  · unfold F_impl_allWithin_L1
    refine J_seq ?_
    refine J_region ?_
    refine JL_q (wants_none rfl) rfl (ex_lss rfl rfl) ?_
    refine JL_nil ?_
    refine N_then ?_
    refine J_seq ?_
    refine J_if rfl (fun h3 => ?_) (fun h3 => ?_)
    · refine J_skip ?_
      refine N_then ?_
      refine J_seq ?_
      refine J_block ?_
      refine J_seq ?_
      refine J_region ?_
      refine JL_bnd fun y4 hy5 => ?_
      refine JL_st (wants_none rfl) rfl (st_index 0 Try.underlying27 ti_2 rfl rfl rfl hy5) (fun q6 => ?_)
      refine JL_st (wants_none rfl) rfl (st_load_pt_o 0 (opens_int _) ti_2 rfl rfl) (fun _ => ?_)
      refine JL_q (wants_none rfl) rfl (ex_assign rfl) ?_
      refine JL_nil ?_
      refine N_then ?_
      refine J_seq ?_
      refine J_region ?_
      refine JL_q (wants_none rfl) rfl (ex_move rfl) ?_
      refine JL_q (wants_none rfl) rfl (ex_move rfl) ?_
      refine JL_q (wants_none rfl) rfl (ex_move rfl) ?_
      refine JL_bnd fun r8 hr9 => ?_
      refine JL_call (wants_none rfl) rfl Try.call44 rfl (Ca_of0 fun w hh => c_impl_within _ w (fun _ hk => hk.elim) _ _ _ _ hr9) (fun _ => ?_)
      refine JL_q (wants_none rfl) rfl (ex_not rfl) ?_
      refine JL_nil ?_
      refine N_then ?_
      refine J_if rfl (fun h10 => ?_) (fun h10 => ?_)
      · refine J_seq ?_
        refine J_region ?_
        refine JL_q (wants_none rfl) rfl (ex_assign rfl) ?_
        refine JL_nil ?_
        refine N_then ?_
        refine J_ret ?_
        refine N_block_ret ?_
        refine N_then_ret ?_
        refine N_round_ret ?_
        refine N_then_ret ?_
        exact N_ret1 rfl (rv_tmp rfl) (fun w hh => ⟨(), rfl, hh.sel [] rfl⟩)
      · refine J_skip ?_
        refine N_block ?_
        refine N_then ?_
        refine J_region ?_
        refine JL_q (wants_none rfl) rfl (ex_add rfl rfl) ?_
        refine JL_q (wants_none rfl) rfl (ex_move rfl) ?_
        refine JL_nil ?_
        exact N_next' () ⟨rfl, rfl, rfl, rfl, rfl, trivial⟩ [1] rfl rfl
    · refine J_exit ?_
      refine N_then_exit ?_
      exact N_break' () ⟨rfl, rfl, rfl, rfl, rfl, trivial⟩ [0] rfl rfl
  · refine N_then ?_
    refine J_seq ?_
    refine J_region ?_
    refine JL_q (wants_none rfl) rfl (ex_assign rfl) ?_
    refine JL_nil ?_
    refine N_then ?_
    refine J_ret ?_
    exact N_ret1 rfl (rv_tmp rfl) (fun w hh => ⟨(), rfl, hh.sel [] rfl⟩)

set_option maxHeartbeats 40000000 in
theorem c_impl_isLetters (A : Nat → Prop) (w : World) (hA : ∀ k, A k → k < w.heap.size) (v0_ : Value) (p0 : (List Int)) (hp0 : Rd A w v0_ p0) (r : Bool) (hr : F_impl_isLetters p0 = some r) :
    Con Try.prog 165 [v0_] A w (fun x_ : Unit => .bool r) (fun x_ => []) := by
  refine Con_of (v := fun (r : Bool) (x_ : Unit) => .bool r) (fs := fun r x_ => []) Try.func165 rfl Try.ntmps165 rfl ((SH.start hA).start_rd rfl hp0) rfl ?_ hr
  unfold F_impl_isLetters
  refine J_seq ?_
  refine J_region ?_
  refine JL_q (wants_none rfl) rfl (ex_assign rfl) ?_
  refine JL_nil ?_
  refine N_then ?_
  refine J_seq ?_
  refine J_region ?_
  refine JL_q (wants_none rfl) rfl (ex_move rfl) ?_
  refine JL_bnd fun r1 hr2 => ?_
  refine JL_call (wants_none rfl) rfl Try.call108 rfl (Ca_of0 fun w hh => c_impl_allWithin _ w (fun _ hk => hk.elim) _ _ (hh.rd0 0 rfl) _ _ _ hr2) (fun _ => ?_)
  refine JL_q (wants_none rfl) rfl (ex_assign rfl) ?_
  refine JL_nil ?_
  refine N_then ?_
  refine J_ret ?_
  exact N_ret1 rfl (rv_tmp rfl) (fun w hh => ⟨(), rfl, hh.sel [] rfl⟩)

set_option maxHeartbeats 40000000 in
theorem c_impl_IsWord (A : Nat → Prop) (w : World) (hA : ∀ k, A k → k < w.heap.size) (v0_ : Value) (p0 : (List Int)) (hp0 : Rd A w v0_ p0) (r : Bool) (hr : F_impl_IsWord p0 = some r) :
    Con Try.prog 152 [v0_] A w (fun x_ : Unit => .bool r) (fun x_ => []) := by
  refine Con_of (v := fun (r : Bool) (x_ : Unit) => .bool r) (fs := fun r x_ => []) Try.func152 rfl Try.ntmps152 rfl ((SH.start hA).start_rd rfl hp0) rfl ?_ hr
  unfold F_impl_IsWord
  refine J_seq ?_
  refine J_region ?_
  refine JL_q (wants_none rfl) rfl (ex_assign rfl) ?_
  refine JL_nil ?_
  refine N_then ?_
  refine J_seq ?_
  refine J_region ?_
  refine JL_q (wants_none rfl) rfl (ex_move rfl) ?_
  refine JL_q (wants_none rfl) rfl (ex_len_rd 0 Try.underlying27 rfl rfl) ?_
  refine JL_q (wants_none rfl) rfl (ex_leq rfl rfl) ?_
  refine JL_q (wants_none rfl) rfl (ex_move rfl) ?_
  refine JL_cond (fun h1 => ?_) (fun h1 => ?_)
  · refine JL_q (wants_some rfl rfl rfl h1) rfl (ex_move rfl) ?_
    refine JL_bnd fun r2 hr3 => ?_
    refine JL_call (wants_some rfl rfl rfl h1) rfl Try.call165 rfl (Ca_of0 fun w hh => c_impl_isLetters _ w (fun _ hk => hk.elim) _ _ (hh.rd0 0 rfl) _ hr3) (fun _ => ?_)
    refine JL_q (wants_none rfl) rfl (ex_pick_true rfl h1 rfl) ?_
    refine JL_q (wants_none rfl) rfl (ex_assign rfl) ?_
    refine JL_nil ?_
    refine N_then ?_
    refine J_ret ?_
    exact N_ret1 rfl (rv_tmp rfl) (fun w hh => ⟨(), rfl, hh.sel [] rfl⟩)
  · refine JL_passed rfl rfl rfl h1 ?_
    refine JL_passed rfl rfl rfl h1 ?_
    refine JL_q (wants_none rfl) rfl (ex_pick_false rfl h1 rfl) ?_
    refine JL_q (wants_none rfl) rfl (ex_assign rfl) ?_
    refine JL_nil ?_
    refine N_then ?_
    refine J_ret ?_
    exact N_ret1 rfl (rv_tmp rfl) (fun w hh => ⟨(), rfl, hh.sel [] rfl⟩)

set_option maxHeartbeats 40000000 in
theorem c_impl_areWords_1 (A : Nat → Prop) (w : World) (hA : ∀ k, A k → k < w.heap.size) (v0_ : Value) (p0 : (List Int)) (hp0 : Rd A w v0_ p0) (r : Bool) (hr : F_impl_areWords_1 p0 = some r) :
    Con Try.prog 151 [v0_] A w (fun x_ : Unit => .bool r) (fun x_ => []) := by
  refine Con_of (v := fun (r : Bool) (x_ : Unit) => .bool r) (fs := fun r x_ => []) Try.func151 rfl Try.ntmps151 rfl ((SH.start hA).start_rd rfl hp0) rfl ?_ hr
  unfold F_impl_areWords_1
  refine J_seq ?_
  refine J_region ?_
  refine JL_q (wants_none rfl) rfl (ex_assign rfl) ?_
  refine JL_nil ?_
  refine N_then ?_
  refine J_seq ?_
  refine J_region ?_
  refine JL_q (wants_none rfl) rfl (ex_move rfl) ?_
  refine JL_bnd fun r1 hr2 => ?_
  refine JL_call (wants_none rfl) rfl Try.call152 rfl (Ca_of0 fun w hh => c_impl_IsWord _ w (fun _ hk => hk.elim) _ _ (hh.rd0 0 rfl) _ hr2) (fun _ => ?_)
  refine JL_q (wants_none rfl) rfl (ex_not rfl) ?_
  refine JL_q (wants_none rfl) rfl (ex_assign rfl) ?_
  refine JL_nil ?_
  refine N_then ?_
  refine J_ret ?_
  exact N_ret1 rfl (rv_tmp rfl) (fun w hh => ⟨(), rfl, hh.sel [] rfl⟩)

set_option maxHeartbeats 40000000 in
theorem c_impl_areWords (A : Nat → Prop) (w : World) (hA : ∀ k, A k → k < w.heap.size) (v0_ : Value) (p0 : (List (List Int))) (hp0 : Rd A w v0_ p0) (r : Bool) (hr : F_impl_areWords p0 = some r) :
    Con Try.prog 118 [v0_] A w (fun x_ : Unit => .bool r) (fun x_ => []) := by
  refine Con_of (v := fun (r : Bool) (x_ : Unit) => .bool r) (fs := fun r x_ => []) Try.func118 rfl Try.ntmps118 rfl ((SH.start hA).start_rd rfl hp0) rfl ?_ hr
  unfold F_impl_areWords
  refine J_seq ?_
  refine J_region ?_
  refine JL_q (wants_none rfl) rfl (ex_assign rfl) ?_
  refine JL_nil ?_
  refine N_then ?_
  refine J_seq ?_
  refine J_region ?_
  refine JL_q (wants_none rfl) rfl (ex_move rfl) ?_
  refine JL_bnd fun r1 hr2 => ?_
  refine JL_call (wants_none rfl) rfl Try.call147 rfl (Ca_of0 fun w hh => c_slices_ContainsFunc_SSint64_Sint64 _ w (fun _ hk => hk.elim) _ _ (hh.rd0 0 rfl) _ _ (Clo.mk (caps := []) Try.call151 (fun w_ hb_ v_ x_ r_ hrd_ hr_ => c_impl_areWords_1 nowhere w_ (fun _ hk => hk.elim) v_ x_ hrd_  _ hr_)) _ hr2) (fun _ => ?_)
  refine JL_q (wants_none rfl) rfl (ex_not rfl) ?_
  refine JL_q (wants_none rfl) rfl (ex_assign rfl) ?_
  refine JL_nil ?_
  refine N_then ?_
  refine J_ret ?_
  exact N_ret1 rfl (rv_tmp rfl) (fun w hh => ⟨(), rfl, hh.sel [] rfl⟩)

set_option maxHeartbeats 40000000 in
theorem c_impl_validDomino (A : Nat → Prop) (w : World) (hA : ∀ k, A k → k < w.heap.size) (v0_ : Value) (p0 : GDomino) (hp0 : Rd A w v0_ p0) (r : Bool) (hr : F_impl_validDomino p0 = some r) :
    Con Try.prog 62 [v0_] A w (fun x_ : Unit => .bool r) (fun x_ => []) := by
  obtain ⟨v0_0, v0_1, rfl, hp0_0, hp0_1⟩ := GDomino.open hp0
  refine Con_of (v := fun (r : Bool) (x_ : Unit) => .bool r) (fs := fun r x_ => []) Try.func62 rfl Try.ntmps62 rfl (((SH.start hA).start_rd rfl hp0_0).start_rd rfl hp0_1) rfl ?_ hr
  unfold F_impl_validDomino
  refine J_seq ?_
  refine J_region ?_
  refine JL_st (wants_none rfl) rfl (st_box' rfl (fun w hh => (cv_aggs ⟨(hh.cv 1 rfl), (hh.cv 0 rfl), trivial⟩))) (fun b1 => ?_)
  refine JL_q (wants_none rfl) rfl (ex_assign rfl) ?_
  refine JL_nil ?_
  refine N_then ?_
  refine J_seq ?_
  refine J_region ?_
  refine JL_q (wants_none rfl) rfl (ex_fieldAddr fi_50_0 rfl rfl) ?_
  refine JL_q (wants_none rfl) rfl (ex_load_bx 0 ti_27 rfl rfl rfl) ?_
  refine JL_q (wants_none rfl) rfl (ex_fieldAddr fi_50_1 rfl rfl) ?_
  refine JL_q (wants_none rfl) rfl (ex_load_bx 0 ti_27 rfl rfl rfl) ?_
  refine JL_st (wants_none rfl) rfl (st_buildSlice (vs := [v0_0, v0_1]) ([p0.Top, p0.Bottom] : List (List Int)) Try.underlying41 ti_27 zi_27 rfl rfl rfl (fun w hh => ⟨(hh.rd 2 rfl), (hh.rd 1 rfl), trivial⟩)) (fun b2 => ?_)
  refine JL_bnd fun r3 hr4 => ?_
  refine JL_call (wants_none rfl) rfl Try.call118 rfl (Ca_of0 fun w hh => c_impl_areWords _ w (fun _ hk => hk.elim) _ _ (hh.ow0 0 rfl) _ hr4) (fun _ => ?_)
  refine JL_q (wants_none rfl) rfl (ex_move rfl) ?_
  refine JL_cond (fun h5 => ?_) (fun h5 => ?_)
  · refine JL_q (wants_some rfl rfl rfl h5) rfl (ex_fieldAddr fi_50_0 rfl rfl) ?_
    refine JL_q (wants_some rfl rfl rfl h5) rfl (ex_load_bx 1 ti_27 rfl rfl rfl) ?_
    refine JL_q (wants_some rfl rfl rfl h5) rfl (ex_len_rd 3 Try.underlying27 rfl rfl) ?_
    refine JL_q (wants_some rfl rfl rfl h5) rfl (ex_fieldAddr fi_50_1 rfl rfl) ?_
    refine JL_q (wants_some rfl rfl rfl h5) rfl (ex_load_bx 1 ti_27 rfl rfl rfl) ?_
    refine JL_q (wants_some rfl rfl rfl h5) rfl (ex_len_rd 2 Try.underlying27 rfl rfl) ?_
    refine JL_q (wants_some rfl rfl rfl h5) rfl (ex_add rfl rfl) ?_
    refine JL_q (wants_some rfl rfl rfl h5) rfl (ex_gtr rfl rfl) ?_
    refine JL_q (wants_none rfl) rfl (ex_pick_true rfl h5 rfl) ?_
    refine JL_q (wants_none rfl) rfl (ex_assign rfl) ?_
    refine JL_nil ?_
    refine N_then ?_
    refine J_ret ?_
    exact N_ret1 rfl (rv_tmp rfl) (fun w hh => ⟨(), rfl, hh.sel [] rfl⟩)
  · refine JL_passed rfl rfl rfl h5 ?_
    refine JL_passed rfl rfl rfl h5 ?_
    refine JL_passed rfl rfl rfl h5 ?_
    refine JL_passed rfl rfl rfl h5 ?_
    refine JL_passed rfl rfl rfl h5 ?_
    refine JL_passed rfl rfl rfl h5 ?_
    refine JL_passed rfl rfl rfl h5 ?_
    refine JL_passed rfl rfl rfl h5 ?_
    refine JL_q (wants_none rfl) rfl (ex_pick_false rfl h5 rfl) ?_
    refine JL_q (wants_none rfl) rfl (ex_assign rfl) ?_
    refine JL_nil ?_
    refine N_then ?_
    refine J_ret ?_
    exact N_ret1 rfl (rv_tmp rfl) (fun w hh => ⟨(), rfl, hh.sel [] rfl⟩)

set_option maxHeartbeats 40000000 in
theorem c_impl_ValidDominoes_1 (A : Nat → Prop) (w : World) (hA : ∀ k, A k → k < w.heap.size) (v0_ : Value) (p0 : GDomino) (hp0 : Rd A w v0_ p0) (r : Bool) (hr : F_impl_ValidDominoes_1 p0 = some r) :
    Con Try.prog 107 [v0_] A w (fun x_ : Unit => .bool r) (fun x_ => []) := by
  obtain ⟨v0_0, v0_1, rfl, hp0_0, hp0_1⟩ := GDomino.open hp0
  refine Con_of (v := fun (r : Bool) (x_ : Unit) => .bool r) (fs := fun r x_ => []) Try.func107 rfl Try.ntmps107 rfl (((SH.start hA).start_rd rfl hp0_0).start_rd rfl hp0_1) rfl ?_ hr
  unfold F_impl_ValidDominoes_1
  refine J_seq ?_
  refine J_region ?_
  refine JL_st (wants_none rfl) rfl (st_box' rfl (fun w hh => (cv_aggs ⟨(hh.cv 1 rfl), (hh.cv 0 rfl), trivial⟩))) (fun b1 => ?_)
  refine JL_q (wants_none rfl) rfl (ex_assign rfl) ?_
  refine JL_nil ?_
  refine N_then ?_
  refine J_seq ?_
  refine J_region ?_
  refine JL_q (wants_none rfl) rfl (ex_load_bx_agg 0 ti_50 rfl rfl rfl rfl) ?_
  refine JL_bnd fun r2 hr3 => ?_
  refine JL_call (wants_none rfl) rfl Try.call62 rfl (Ca_of0 fun w hh => c_impl_validDomino _ w (fun _ hk => hk.elim) _ _ (GDomino.rdmk (hh.rd0 2 rfl) (hh.rd0 1 rfl)) _ hr3) (fun _ => ?_)
  refine JL_q (wants_none rfl) rfl (ex_not rfl) ?_
  refine JL_q (wants_none rfl) rfl (ex_assign rfl) ?_
  refine JL_nil ?_
  refine N_then ?_
  refine J_ret ?_
  exact N_ret1 rfl (rv_tmp rfl) (fun w hh => ⟨(), rfl, hh.sel [] rfl⟩)

set_option maxHeartbeats 40000000 in
theorem c_impl_ValidDominoes (A : Nat → Prop) (w : World) (hA : ∀ k, A k → k < w.heap.size) (v0_ : Value) (p0 : (List GDomino)) (hp0 : Rd A w v0_ p0) (r : Bool) (hr : F_impl_ValidDominoes p0 = some r) :
    Con Try.prog 55 [v0_] A w (fun x_ : Unit => .bool r) (fun x_ => []) := by
  refine Con_of (v := fun (r : Bool) (x_ : Unit) => .bool r) (fs := fun r x_ => []) Try.func55 rfl Try.ntmps55 rfl ((SH.start hA).start_rd rfl hp0) rfl ?_ hr
  unfold F_impl_ValidDominoes
  refine J_seq ?_
  refine J_region ?_
  refine JL_q (wants_none rfl) rfl (ex_assign rfl) ?_
  refine JL_nil ?_
  refine N_then ?_
  refine J_seq ?_
  refine J_region ?_
  refine JL_q (wants_none rfl) rfl (ex_move rfl) ?_
  refine JL_bnd fun r1 hr2 => ?_
  refine JL_call (wants_none rfl) rfl Try.call105 rfl (Ca_of0 fun w hh => c_impl_size_impl_Domino _ w (fun _ hk => hk.elim) _ _ (hh.rd0 0 rfl) _ hr2) (fun _ => ?_)
  refine JL_bnd fun r3 hr4 => ?_
  refine JL_call (wants_none rfl) rfl Try.call44 rfl (Ca_of0 fun w hh => c_impl_within _ w (fun _ hk => hk.elim) _ _ _ _ hr4) (fun _ => ?_)
  refine JL_q (wants_none rfl) rfl (ex_move rfl) ?_
  refine JL_cond (fun h5 => ?_) (fun h5 => ?_)
  · refine JL_q (wants_some rfl rfl rfl h5) rfl (ex_move rfl) ?_
    refine JL_bnd fun r6 hr7 => ?_
    refine JL_call (wants_some rfl rfl rfl h5) rfl Try.call106 rfl (Ca_of0 fun w hh => c_slices_ContainsFunc_Simpl_Domino_impl_Domino _ w (fun _ hk => hk.elim) _ _ (hh.rd0 0 rfl) _ _ (Clo.mk (caps := []) Try.call107 (fun w_ hb_ v_ x_ r_ hrd_ hr_ => c_impl_ValidDominoes_1 nowhere w_ (fun _ hk => hk.elim) v_ x_ hrd_  _ hr_)) _ hr7) (fun _ => ?_)
    refine JL_q (wants_some rfl rfl rfl h5) rfl (ex_not rfl) ?_
    refine JL_q (wants_none rfl) rfl (ex_pick_true rfl h5 rfl) ?_
    refine JL_q (wants_none rfl) rfl (ex_assign rfl) ?_
    refine JL_nil ?_
    refine N_then ?_
    refine J_ret ?_
    exact N_ret1 rfl (rv_tmp rfl) (fun w hh => ⟨(), rfl, hh.sel [] rfl⟩)
  · refine JL_passed rfl rfl rfl h5 ?_
    refine JL_passed rfl rfl rfl h5 ?_
    refine JL_passed rfl rfl rfl h5 ?_
    refine JL_q (wants_none rfl) rfl (ex_pick_false rfl h5 rfl) ?_
    refine JL_q (wants_none rfl) rfl (ex_assign rfl) ?_
    refine JL_nil ?_
    refine N_then ?_
    refine J_ret ?_
    exact N_ret1 rfl (rv_tmp rfl) (fun w hh => ⟨(), rfl, hh.sel [] rfl⟩)

set_option maxHeartbeats 40000000 in
theorem c_impl_size_int64 (A : Nat → Prop) (w : World) (hA : ∀ k, A k → k < w.heap.size) (v0_ : Value) (p0 : (List Int)) (hp0 : Rd A w v0_ p0) (r : Int) (hr : F_impl_size_int64 p0 = some r) :
    Con Try.prog 87 [v0_] A w (fun x_ : Unit => .int .i64 r) (fun x_ => []) := by
  refine Con_of (v := fun (r : Int) (x_ : Unit) => .int .i64 r) (fs := fun r x_ => []) Try.func87 rfl Try.ntmps87 rfl ((SH.start hA).start_rd rfl hp0) rfl ?_ hr
  unfold F_impl_size_int64
  refine J_seq ?_
  refine J_region ?_
  refine JL_q (wants_none rfl) rfl (ex_assign rfl) ?_
  refine JL_nil ?_
  refine N_then ?_
  refine J_seq ?_
  refine J_region ?_
  refine JL_q (wants_none rfl) rfl (ex_move rfl) ?_
  refine JL_q (wants_none rfl) rfl (ex_len_rd 0 Try.underlying27 rfl rfl) ?_
  refine JL_q (wants_none rfl) rfl (ex_assign rfl) ?_
  refine JL_nil ?_
  refine N_then ?_
  refine J_ret ?_
  exact N_ret1 rfl (rv_tmp rfl) (fun w hh => ⟨(), rfl, hh.sel [] rfl⟩)

set_option maxHeartbeats 40000000 in
theorem c_impl_matchRange (A : Nat → Prop) (w : World) (hA : ∀ k, A k → k < w.heap.size) (v0_ : Value) (p0 : (List GDomino)) (hp0 : Rd A w v0_ p0) (v1_ : Value) (p1 : (List Int)) (hp1 : Rd A w v1_ p1) (r : Bool) (hr : F_impl_matchRange p0 p1 = some r) :
    Con Try.prog 56 [v0_, v1_] A w (fun x_ : Unit => .bool r) (fun x_ => []) := by
  refine Con_of (v := fun (r : Bool) (x_ : Unit) => .bool r) (fs := fun r x_ => []) Try.func56 rfl Try.ntmps56 rfl (((SH.start hA).start_rd rfl hp0).start_rd rfl hp1) rfl ?_ hr
  unfold F_impl_matchRange
  refine J_seq ?_
  refine J_region ?_
  refine JL_q (wants_none rfl) rfl (ex_assign rfl) ?_
  refine JL_nil ?_
  refine N_then ?_
  refine J_seq ?_
  refine J_region ?_
  refine JL_q (wants_none rfl) rfl (ex_move rfl) ?_
  refine JL_bnd fun r1 hr2 => ?_
  refine JL_call (wants_none rfl) rfl Try.call87 rfl (Ca_of0 fun w hh => c_impl_size_int64 _ w (fun _ hk => hk.elim) _ _ (hh.rd0 0 rfl) _ hr2) (fun _ => ?_)
  refine JL_bnd fun r3 hr4 => ?_
  refine JL_call (wants_none rfl) rfl Try.call44 rfl (Ca_of0 fun w hh => c_impl_within _ w (fun _ hk => hk.elim) _ _ _ _ hr4) (fun _ => ?_)
  refine JL_q (wants_none rfl) rfl (ex_move rfl) ?_
  refine JL_cond (fun h5 => ?_) (fun h5 => ?_)
  · refine JL_q (wants_some rfl rfl rfl h5) rfl (ex_move rfl) ?_
    refine JL_q (wants_some rfl rfl rfl h5) rfl (ex_move rfl) ?_
    refine JL_bnd fun r6 hr7 => ?_
    refine JL_call (wants_some rfl rfl rfl h5) rfl Try.call105 rfl (Ca_of0 fun w hh => c_impl_size_impl_Domino _ w (fun _ hk => hk.elim) _ _ (hh.rd0 1 rfl) _ hr7) (fun _ => ?_)
    refine JL_q (wants_some rfl rfl rfl h5) rfl (ex_sub rfl rfl) ?_
    refine JL_bnd fun r8 hr9 => ?_
    refine JL_call (wants_some rfl rfl rfl h5) rfl Try.call108 rfl (Ca_of0 fun w hh => c_impl_allWithin _ w (fun _ hk => hk.elim) _ _ (hh.rd0 0 rfl) _ _ _ hr9) (fun _ => ?_)
    refine JL_q (wants_none rfl) rfl (ex_pick_true rfl h5 rfl) ?_
    refine JL_q (wants_none rfl) rfl (ex_assign rfl) ?_
    refine JL_nil ?_
    refine N_then ?_
    refine J_ret ?_
    exact N_ret1 rfl (rv_tmp rfl) (fun w hh => ⟨(), rfl, hh.sel [] rfl⟩)
  · refine JL_passed rfl rfl rfl h5 ?_
    refine JL_passed rfl rfl rfl h5 ?_
    refine JL_passed rfl rfl rfl h5 ?_
    refine JL_passed rfl rfl rfl h5 ?_
    refine JL_passed rfl rfl rfl h5 ?_
    refine JL_q (wants_none rfl) rfl (ex_pick_false rfl h5 rfl) ?_
    refine JL_q (wants_none rfl) rfl (ex_assign rfl) ?_
    refine JL_nil ?_
    refine N_then ?_
    refine J_ret ?_
    exact N_ret1 rfl (rv_tmp rfl) (fun w hh => ⟨(), rfl, hh.sel [] rfl⟩)

set_option maxHeartbeats 40000000 in
theorem c_impl_one (A : Nat → Prop) (w : World) (hA : ∀ k, A k → k < w.heap.size)  (r : (List Int)) (hr : F_impl_one  = some r) :
    Con Try.prog 112 [] A w (fun x_ : Value => x_) (fun x_ => [.ow 2 x_ r]) := by
  refine Con_of (v := fun (r : (List Int)) (x_ : Value) => x_) (fs := fun r x_ => [.ow 2 x_ r]) Try.func112 rfl Try.ntmps112 rfl (SH.start hA) rfl ?_ hr
  unfold F_impl_one
  refine J_seq ?_
  refine J_region ?_
  refine JL_q (wants_none rfl) rfl (ex_assign rfl) ?_
  refine JL_nil ?_
  refine N_then ?_
  refine J_seq ?_
  refine J_region ?_
  refine JL_st (wants_none rfl) rfl (st_buildSlice (vs := [.int .i64 1]) ([1] : List Int) Try.underlying27 ti_2 zi_2 rfl rfl rfl (fun w hh => ⟨(Rd.mk_int _ _ _), trivial⟩)) (fun b1 => ?_)
  refine JL_q (wants_none rfl) rfl (ex_assign rfl) ?_
  refine JL_nil ?_
  refine N_then ?_
  refine J_ret ?_
  exact N_ret1 rfl (rv_tmp rfl) (fun w hh => ⟨(.slice (some ⟨b1, 0, none⟩) 1 1), rfl, hh.sel [0] rfl⟩)

set_option maxHeartbeats 40000000 in
theorem c_impl_trimmed (A : Nat → Prop) (w : World) (hA : ∀ k, A k → k < w.heap.size) (v0_ : Value) (p0 : (List Int)) (hp0 : Rd A w v0_ p0) (r : (List Int)) (hr : F_impl_trimmed p0 = some r) :
    Con Try.prog 43 [v0_] A w (fun x_ : Value => x_) (fun x_ => [.pr (Sub v0_ p0 x_ r)]) := by
  refine Con_of (v := fun (r : (List Int)) (x_ : Value) => x_) (fs := fun r x_ => [.pr (Sub v0_ p0 x_ r)]) Try.func43 rfl Try.ntmps43 rfl ((SH.start hA).start_rd rfl hp0) rfl ?_ hr
  unfold F_impl_trimmed
  refine J_seq ?_
  refine J_region ?_
  refine JL_q (wants_none rfl) rfl (ex_assign rfl) ?_
  refine JL_nil ?_
  refine N_then ?_
  refine J_seq ?_
  refine J_ctx (fun w hh => hh.cons_pr (p := Sub v0_ p0 v0_ p0) Sub.refl) ?_
  refine J_loop' (S := (List Int)) (G := Value) (F_impl_trimmed_L1) (fun s1 g2 => [(0, g2)]) (fun s1 g2 => [.rd g2 s1, .pr (Sub v0_ p0 g2 s1)]) p0 v0_ ⟨rfl, trivial⟩ [1, 0] rfl rfl (fun s1 g2 => ?_) (fun s1 g2 => ?_)
  · unfold F_impl_trimmed_L1
    refine J_seq ?_
    refine J_seq ?_
    refine J_region ?_
    refine JL_q (wants_none rfl) rfl (ex_move rfl) ?_
    refine JL_q (wants_none rfl) rfl (ex_len_rd 0 Try.underlying27 rfl rfl) ?_
    refine JL_q (wants_none rfl) rfl (ex_gtr rfl rfl) ?_
    refine JL_q (wants_none rfl) rfl (ex_move rfl) ?_
    refine JL_cond (fun h3 => ?_) (fun h3 => ?_)
    · refine JL_q (wants_some rfl rfl rfl h3) rfl (ex_move rfl) ?_
      refine JL_q (wants_some rfl rfl rfl h3) rfl (ex_move rfl) ?_
      refine JL_q (wants_some rfl rfl rfl h3) rfl (ex_len_rd 0 Try.underlying27 rfl rfl) ?_
      refine JL_q (wants_some rfl rfl rfl h3) rfl (ex_sub rfl rfl) ?_
      refine JL_bnd fun y4 hy5 => ?_
      refine JL_st (wants_some rfl rfl rfl h3) rfl (st_index 0 Try.underlying27 ti_2 rfl rfl rfl hy5) (fun q6 => ?_)
      refine JL_st (wants_some rfl rfl rfl h3) rfl (st_load_pt_o 0 (opens_int _) ti_2 rfl rfl) (fun _ => ?_)
      refine JL_q (wants_some rfl rfl rfl h3) rfl (ex_eql rfl rfl) ?_
      refine JL_q (wants_none rfl) rfl (ex_pick_true rfl h3 rfl) ?_
      refine JL_nil ?_
      refine N_then ?_
      refine J_if rfl (fun h8 => ?_) (fun h8 => ?_)
      · refine J_skip ?_
        refine N_then ?_
        refine J_block ?_
        refine J_region ?_
        refine JL_q (wants_none rfl) rfl (ex_move rfl) ?_
        refine JL_q (wants_none rfl) rfl (ex_move rfl) ?_
        refine JL_q (wants_none rfl) rfl (ex_len_rd 1 Try.underlying27 rfl rfl) ?_
        refine JL_q (wants_none rfl) rfl (ex_sub rfl rfl) ?_
        refine JL_bnd fun z9 hz10 => ?_
        refine JL_st (wants_none rfl) rfl (st_slice_sub 1 Try.underlying27 ti_2 rfl rfl rfl rfl hz10) (fun v11 => ?_)
        refine JL_q (wants_none rfl) rfl (ex_assign rfl) ?_
        refine JL_nil ?_
        refine N_block ?_
        refine N_ctx (fun w hh => hh.cons_pr (p := Sub v0_ p0 v11 z9) (Sub.trans (hh.pr 4 rfl) (hh.pr 1 rfl))) ?_
        exact N_next' v11 ⟨rfl, trivial⟩ [1, 0] rfl rfl
      · refine J_exit ?_
        refine N_then_exit ?_
        refine N_ctx (fun w hh => hh.cons_pr (p := Sub v0_ p0 g2 s1) (hh.pr 2 rfl)) ?_
        exact N_break' g2 ⟨rfl, trivial⟩ [2, 0] rfl rfl
    · refine JL_passed rfl rfl rfl h3 ?_
      refine JL_passed rfl rfl rfl h3 ?_
      refine JL_passed rfl rfl rfl h3 ?_
      refine JL_passed rfl rfl rfl h3 ?_
      refine JL_passed rfl rfl rfl h3 ?_
      refine JL_passed rfl rfl rfl h3 ?_
      refine JL_passed rfl rfl rfl h3 ?_
      refine JL_q (wants_none rfl) rfl (ex_pick_false rfl h3 rfl) ?_
      refine JL_nil ?_
      refine N_then ?_
      refine J_if_false rfl rfl ?_
      refine J_exit ?_
      refine N_then_exit ?_
      refine N_ctx (fun w hh => hh.cons_pr (p := Sub v0_ p0 g2 s1) (hh.pr 1 rfl)) ?_
      exact N_break' g2 ⟨rfl, trivial⟩ [1, 0] rfl rfl
  · refine N_then ?_
    refine J_seq ?_
    refine J_region ?_
    refine JL_q (wants_none rfl) rfl (ex_move rfl) ?_
    refine JL_q (wants_none rfl) rfl (ex_assign rfl) ?_
    refine JL_nil ?_
    refine N_then ?_
    refine J_ret ?_
    refine N_ctx (fun w hh => hh.cons_pr (p := Sub v0_ p0 g2 s1) (hh.pr 1 rfl)) ?_
    exact N_ret1 rfl (rv_tmp rfl) (fun w hh => ⟨g2, rfl, hh.sel [0] rfl⟩)

set_option maxHeartbeats 40000000 in
theorem c_impl_multiply (A : Nat → Prop) (w : World) (hA : ∀ k, A k → k < w.heap.size) (v0_ : Value) (p0 : (List Int)) (hp0 : Rd A w v0_ p0) (v1_ : Value) (p1 : (List Int)) (hp1 : Rd A w v1_ p1) (r : (List Int)) (hr : F_impl_multiply p0 p1 = some r) :
    Con Try.prog 114 [v0_, v1_] A w (fun x_ : Value × List Nat => x_.1) (fun x_ => [.tkn x_.1 r x_.2]) := by
  refine Con_of (v := fun (r : (List Int)) (x_ : Value × List Nat) => x_.1) (fs := fun r x_ => [.tkn x_.1 r x_.2]) Try.func114 rfl Try.ntmps114 rfl (((SH.start hA).start_rd rfl hp0).start_rd rfl hp1) rfl ?_ hr
  unfold F_impl_multiply
  refine J_seq ?_
  refine J_region ?_
  refine JL_q (wants_none rfl) rfl (ex_assign rfl) ?_
  refine JL_nil ?_
  refine N_then ?_
  refine J_seq ?_
  refine J_region ?_
  refine JL_q (wants_none rfl) rfl (ex_move rfl) ?_
  refine JL_q (wants_none rfl) rfl (ex_len_rd 1 Try.underlying27 rfl rfl) ?_
  refine JL_q (wants_none rfl) rfl (ex_move rfl) ?_
  refine JL_q (wants_none rfl) rfl (ex_len_rd 0 Try.underlying27 rfl rfl) ?_
  refine JL_q (wants_none rfl) rfl (ex_add rfl rfl) ?_
  refine JL_bnd fun z1 hz2 => ?_
  refine JL_st (wants_none rfl) rfl (st_make (α := Int) Try.underlying27 ti_2 zi_2 bi_2 rfl (fun _ _ => zero_int) rfl hz2) (fun b3 => ?_)
  refine JL_q (wants_none rfl) rfl (ex_assign rfl) ?_
  refine JL_nil ?_
  refine N_then ?_
  refine J_seq ?_
  refine J_seq ?_
  refine J_region ?_
  refine JL_q (wants_none rfl) rfl (ex_move rfl) ?_
  refine JL_q (wants_none rfl) rfl (ex_len_rd 2 Try.underlying27 rfl rfl) ?_
  refine JL_q (wants_none rfl) rfl (ex_move rfl) ?_
  refine JL_nil ?_
  refine N_then ?_
  refine J_loop' (S := (List Int) × Int) (G := Unit) (F_impl_multiply_L1 p0 p1) (fun s4 _ => [(1, v1_), (5, (.slice (some ⟨b3, 0, none⟩) z1.length z1.length)), (16, v0_), (17, .int .i64 (p0.length : Int)), (18, .int .i64 s4.2)]) (fun s4 _ => [.rd v1_ p1, .ow 2 (.slice (some ⟨b3, 0, none⟩) z1.length z1.length) s4.1, .rd v0_ p0]) (z1, 0) () ⟨rfl, rfl, rfl, rfl, rfl, trivial⟩ [1, 0, 2] rfl rfl (fun s4 g5 => ?_) (fun s4 g5 => ?_)
  · unfold F_impl_multiply_L1
    refine J_seq ?_
    refine J_region ?_
    refine JL_q (wants_none rfl) rfl (ex_lss rfl rfl) ?_
    refine JL_nil ?_
    refine N_then ?_
    refine J_seq ?_
    refine J_if rfl (fun h6 => ?_) (fun h6 => ?_)
    · refine J_skip ?_
      refine N_then ?_
      refine J_seq ?_
      refine J_block ?_
      refine J_seq ?_
      refine J_region ?_
      refine JL_q (wants_none rfl) rfl (ex_move rfl) ?_
      refine JL_bnd fun y7 hy8 => ?_
      refine JL_st (wants_none rfl) rfl (st_index 2 Try.underlying27 ti_2 rfl rfl rfl hy8) (fun q9 => ?_)
      refine JL_st (wants_none rfl) rfl (st_load_pt_o 0 (opens_int _) ti_2 rfl rfl) (fun _ => ?_)
      refine JL_q (wants_none rfl) rfl (ex_assign rfl) ?_
      refine JL_q (wants_none rfl) rfl (ex_assign rfl) ?_
      refine JL_nil ?_
      refine N_then ?_
      refine J_seq ?_
      refine J_region ?_
      refine JL_q (wants_none rfl) rfl (ex_assign rfl) ?_
      refine JL_nil ?_
      refine N_then ?_
      refine J_seq ?_
      refine J_region ?_
      refine JL_q (wants_none rfl) rfl (ex_assign rfl) ?_
      refine JL_nil ?_
      refine N_then ?_
      refine J_loop' (S := (List Int) × Int × Int) (G := Unit) (F_impl_multiply_L2 p1 s4 y7) (fun s11 _ => [(1, v1_), (5, (.slice (some ⟨b3, 0, none⟩) z1.length z1.length)), (6, .int .i64 s4.2), (7, .int .i64 y7), (8, .int .i64 s11.2.1), (9, .int .i64 s11.2.2), (16, v0_), (17, .int .i64 (p0.length : Int)), (18, .int .i64 s4.2)]) (fun s11 _ => [.rd v1_ p1, .ow 2 (.slice (some ⟨b3, 0, none⟩) z1.length z1.length) s11.1, .rd v0_ p0]) (s4.1, 0, 0) () ⟨rfl, rfl, rfl, rfl, rfl, rfl, rfl, rfl, rfl, trivial⟩ [1, 2, 3] rfl rfl (fun s11 g12 => ?_) (fun s11 g12 => ?_)
      · unfold F_impl_multiply_L2
        refine J_seq ?_
        refine J_seq ?_
        refine J_cut' (S' := Bool) (G' := Unit) (fun s13 _ => [(1, v1_), (5, (.slice (some ⟨b3, 0, none⟩) z1.length z1.length)), (6, .int .i64 s4.2), (7, .int .i64 y7), (8, .int .i64 s11.2.1), (9, .int .i64 s11.2.2), (16, v0_), (17, .int .i64 (p0.length : Int)), (18, .int .i64 s4.2), (30, .bool s13)]) (fun s13 _ => [.rd v1_ p1, .ow 2 (.slice (some ⟨b3, 0, none⟩) z1.length z1.length) s11.1, .rd v0_ p0]) ?_ (fun s13 g14 => ?_)
        · refine J_region ?_
          refine JL_q (wants_none rfl) rfl (ex_move rfl) ?_
          refine JL_q (wants_none rfl) rfl (ex_move rfl) ?_
          refine JL_q (wants_none rfl) rfl (ex_len_rd 0 Try.underlying27 rfl rfl) ?_
          refine JL_q (wants_none rfl) rfl (ex_lss rfl rfl) ?_
          refine JL_q (wants_none rfl) rfl (ex_move rfl) ?_
          refine JL_cond (fun h15 => ?_) (fun h15 => ?_)
          · refine JL_passed rfl rfl rfl h15 ?_
            refine JL_passed rfl rfl rfl h15 ?_
            refine JL_q (wants_none rfl) rfl (ex_pick_true rfl h15 rfl) ?_
            refine JL_nil ?_
            exact N_meet' () ⟨rfl, rfl, rfl, rfl, rfl, rfl, rfl, rfl, rfl, rfl, trivial⟩ [0, 1, 2] rfl rfl
          · refine JL_q (wants_some rfl rfl rfl h15) rfl (ex_move rfl) ?_
            refine JL_q (wants_some rfl rfl rfl h15) rfl (ex_gtr rfl rfl) ?_
            refine JL_q (wants_none rfl) rfl (ex_pick_false rfl h15 rfl) ?_
            refine JL_nil ?_
            exact N_meet' () ⟨rfl, rfl, rfl, rfl, rfl, rfl, rfl, rfl, rfl, rfl, trivial⟩ [0, 1, 2] rfl rfl
        · refine N_then ?_
          refine J_if rfl (fun h16 => ?_) (fun h16 => ?_)
          · refine J_skip ?_
            refine N_then ?_
            refine J_seq ?_
            refine J_block ?_
            refine J_seq ?_
            refine J_region ?_
            refine JL_q (wants_none rfl) rfl (ex_move rfl) ?_
            refine JL_q (wants_none rfl) rfl (ex_move rfl) ?_
            refine JL_q (wants_none rfl) rfl (ex_move rfl) ?_
            refine JL_q (wants_none rfl) rfl (ex_move rfl) ?_
            refine JL_q (wants_none rfl) rfl (ex_add rfl rfl) ?_
            refine JL_bnd fun y17 hy18 => ?_
            refine JL_q (wants_none rfl) rfl (ex_index_ow 1 Try.underlying27 ti_2 rfl rfl rfl hy18) ?_
            refine JL_q (wants_none rfl) rfl (ex_load_ow_int 1 ti_2 rfl rfl hy18) ?_
            refine JL_q (wants_none rfl) rfl (ex_add rfl rfl) ?_
            refine JL_q (wants_none rfl) rfl (ex_assign rfl) ?_
            refine JL_nil ?_
            refine N_then ?_
            refine J_seq ?_
            refine J_seq ?_
            refine J_region ?_
            refine JL_q (wants_none rfl) rfl (ex_move rfl) ?_
            refine JL_q (wants_none rfl) rfl (ex_move rfl) ?_
            refine JL_q (wants_none rfl) rfl (ex_len_rd 0 Try.underlying27 rfl rfl) ?_
            refine JL_q (wants_none rfl) rfl (ex_lss rfl rfl) ?_
            refine JL_nil ?_
            refine N_then ?_
            refine J_if rfl (fun h20 => ?_) (fun h20 => ?_)
            · refine J_region ?_
              refine JL_q (wants_none rfl) rfl (ex_move rfl) ?_
              refine JL_q (wants_none rfl) rfl (ex_move rfl) ?_
              refine JL_q (wants_none rfl) rfl (ex_move rfl) ?_
              refine JL_q (wants_none rfl) rfl (ex_move rfl) ?_
              refine JL_bnd fun y21 hy22 => ?_
              refine JL_st (wants_none rfl) rfl (st_index 0 Try.underlying27 ti_2 rfl rfl rfl hy22) (fun q23 => ?_)
              refine JL_st (wants_none rfl) rfl (st_load_pt_o 0 (opens_int _) ti_2 rfl rfl) (fun _ => ?_)
              refine JL_q (wants_none rfl) rfl (ex_mul rfl rfl) ?_
              refine JL_q (wants_none rfl) rfl (ex_add rfl rfl) ?_
              refine JL_q (wants_none rfl) rfl (ex_assign rfl) ?_
              refine JL_nil ?_
              refine N_then ?_
              refine J_seq ?_
              refine J_region ?_
              refine JL_q (wants_none rfl) rfl (ex_move rfl) ?_
              refine JL_q (wants_none rfl) rfl (ex_move rfl) ?_
              refine JL_q (wants_none rfl) rfl (ex_move rfl) ?_
              refine JL_q (wants_none rfl) rfl (ex_add rfl rfl) ?_
              refine JL_q (wants_none rfl) rfl (ex_move rfl) ?_
              refine JL_q (wants_none rfl) rfl (ex_rem rfl rfl (by decide)) ?_
              refine JL_bnd fun y25 hy26 => ?_
              refine JL_q (wants_none rfl) rfl (ex_index_ow 2 Try.underlying27 ti_2 rfl rfl rfl hy26) ?_
              refine JL_sk (wants_none rfl) (sk_store_ow 2 ti_2 rfl rfl rfl hy26 (fun w hh => (Rd.mk_int _ _ _))) ?_
              refine JL_nil ?_
              refine N_then ?_
              refine J_region ?_
              refine JL_q (wants_none rfl) rfl (ex_move rfl) ?_
              refine JL_q (wants_none rfl) rfl (ex_quo rfl rfl (by decide)) ?_
              refine JL_q (wants_none rfl) rfl (ex_assign rfl) ?_
              refine JL_nil ?_
              refine N_block ?_
              refine N_then ?_
              refine J_region ?_
              refine JL_q (wants_none rfl) rfl (ex_move rfl) ?_
              refine JL_q (wants_none rfl) rfl (ex_add rfl rfl) ?_
              refine JL_q (wants_none rfl) rfl (ex_assign rfl) ?_
              refine JL_nil ?_
              exact N_next' () ⟨rfl, rfl, rfl, rfl, rfl, rfl, rfl, rfl, rfl, trivial⟩ [1, 2, 3] rfl rfl
            · refine J_skip ?_
              refine N_then ?_
              refine J_seq ?_
              refine J_region ?_
              refine JL_q (wants_none rfl) rfl (ex_move rfl) ?_
              refine JL_q (wants_none rfl) rfl (ex_move rfl) ?_
              refine JL_q (wants_none rfl) rfl (ex_move rfl) ?_
              refine JL_q (wants_none rfl) rfl (ex_add rfl rfl) ?_
              refine JL_q (wants_none rfl) rfl (ex_move rfl) ?_
              refine JL_q (wants_none rfl) rfl (ex_rem rfl rfl (by decide)) ?_
              refine JL_bnd fun y27 hy28 => ?_
              refine JL_q (wants_none rfl) rfl (ex_index_ow 1 Try.underlying27 ti_2 rfl rfl rfl hy28) ?_
              refine JL_sk (wants_none rfl) (sk_store_ow 1 ti_2 rfl rfl rfl hy28 (fun w hh => (Rd.mk_int _ _ _))) ?_
              refine JL_nil ?_
              refine N_then ?_
              refine J_region ?_
              refine JL_q (wants_none rfl) rfl (ex_move rfl) ?_
              refine JL_q (wants_none rfl) rfl (ex_quo rfl rfl (by decide)) ?_
              refine JL_q (wants_none rfl) rfl (ex_assign rfl) ?_
              refine JL_nil ?_
              refine N_block ?_
              refine N_then ?_
              refine J_region ?_
              refine JL_q (wants_none rfl) rfl (ex_move rfl) ?_
              refine JL_q (wants_none rfl) rfl (ex_add rfl rfl) ?_
              refine JL_q (wants_none rfl) rfl (ex_assign rfl) ?_
              refine JL_nil ?_
              exact N_next' () ⟨rfl, rfl, rfl, rfl, rfl, rfl, rfl, rfl, rfl, trivial⟩ [0, 1, 2] rfl rfl
          · refine J_exit ?_
            refine N_then_exit ?_
            exact N_break' () ⟨rfl, rfl, rfl, rfl, rfl, rfl, rfl, rfl, rfl, trivial⟩ [0, 1, 2] rfl rfl
      · refine N_block ?_
        refine N_then ?_
        refine J_region ?_
        refine JL_q (wants_none rfl) rfl (ex_add rfl rfl) ?_
        refine JL_q (wants_none rfl) rfl (ex_move rfl) ?_
        refine JL_nil ?_
        exact N_next' () ⟨rfl, rfl, rfl, rfl, rfl, trivial⟩ [0, 1, 2] rfl rfl
    · refine J_exit ?_
      refine N_then_exit ?_
      exact N_break' () ⟨rfl, rfl, rfl, rfl, rfl, trivial⟩ [0, 1, 2] rfl rfl
  · refine N_then ?_
    refine J_seq ?_
    refine J_region ?_
    refine JL_q (wants_none rfl) rfl (ex_move rfl) ?_
    refine JL_bnd fun r29 hr30 => ?_
    refine JL_call (wants_none rfl) rfl Try.call43 rfl (Ca_self (fun _ => rfl) fun w hh => c_impl_trimmed _ w (fun _ hk => hk.elim) _ _ (hh.ow0 1 rfl) _ hr30) (fun x31 => ?_)
    refine JL_ctx (fun w hh => hh.tokf 2 rfl rfl) ?_
    refine JL_ctx (fun w hh => hh.sub_rd 3 rfl (hh.pr 1 rfl)) ?_
    refine JL_ctx (fun w hh => hh.sub_tkn 1 rfl (hh.pr 2 rfl)) ?_
    refine JL_q (wants_none rfl) rfl (ex_assign rfl) ?_
    refine JL_nil ?_
    refine N_then ?_
    refine J_ret ?_
    exact N_ret1 rfl (rv_tmp rfl) (fun w hh => ⟨(x31, (((.slice (some ⟨b3, 0, none⟩) z1.length z1.length) : Value).ownBlock.toList ++ [])), rfl, hh.sel [1] rfl⟩)

set_option maxHeartbeats 40000000 in
theorem c_impl_basePower (A : Nat → Prop) (w : World) (hA : ∀ k, A k → k < w.heap.size) (p0 : Int) (r : (List Int)) (hr : F_impl_basePower p0 = some r) :
    Con Try.prog 110 [.int .i64 p0] A w (fun x_ : Value × List Nat => x_.1) (fun x_ => [.tkn x_.1 r x_.2]) := by
  refine Con_of (v := fun (r : (List Int)) (x_ : Value × List Nat) => x_.1) (fs := fun r x_ => [.tkn x_.1 r x_.2]) Try.func110 rfl Try.ntmps110 rfl (SH.start hA) rfl ?_ hr
  unfold F_impl_basePower
  refine J_seq ?_
  refine J_region ?_
  refine JL_q (wants_none rfl) rfl (ex_assign rfl) ?_
  refine JL_nil ?_
  refine N_then ?_
  refine J_seq ?_
  refine J_region ?_
  refine JL_bnd fun r1 hr2 => ?_
  refine JL_call (wants_none rfl) rfl Try.call112 rfl (Ca_self (fun _ => rfl) fun w hh => c_impl_one _ w (fun _ hk => hk.elim)  _ hr2) (fun x3 => ?_)
  refine JL_q (wants_none rfl) rfl (ex_assign rfl) ?_
  refine JL_nil ?_
  refine N_then ?_
  refine J_seq ?_
  refine J_ctx (fun w hh => hh.tokf 0 rfl rfl) ?_
  refine J_loop' (S := Int × (List Int)) (G := Value × List Nat) (F_impl_basePower_L1) (fun s4 g5 => [(0, .int .i64 s4.1), (3, g5.1)]) (fun s4 g5 => [.rd g5.1 s4.2, .tkn g5.1 s4.2 g5.2]) (p0, r1) (x3, ((x3 : Value).ownBlock.toList ++ [])) ⟨rfl, rfl, trivial⟩ [1, 0] rfl rfl (fun s4 g5 => ?_) (fun s4 g5 => ?_)
  · obtain ⟨g5_0, g5_1⟩ := g5
    unfold F_impl_basePower_L1
    refine J_seq ?_
    refine J_seq ?_
    refine J_region ?_
    refine JL_q (wants_none rfl) rfl (ex_move rfl) ?_
    refine JL_q (wants_none rfl) rfl (ex_gtr rfl rfl) ?_
    refine JL_q (wants_none rfl) rfl (ex_move rfl) ?_
    refine JL_cond (fun h6 => ?_) (fun h6 => ?_)
    · refine JL_q (wants_some rfl rfl rfl h6) rfl (ex_move rfl) ?_
      refine JL_q (wants_some rfl rfl rfl h6) rfl (ex_len_rd 0 Try.underlying27 rfl rfl) ?_
      refine JL_q (wants_some rfl rfl rfl h6) rfl (ex_leq rfl rfl) ?_
      refine JL_q (wants_none rfl) rfl (ex_pick_true rfl h6 rfl) ?_
      refine JL_nil ?_
      refine N_then ?_
      refine J_if rfl (fun h7 => ?_) (fun h7 => ?_)
      · refine J_skip ?_
        refine N_then ?_
        refine J_seq ?_
        refine J_block ?_
        refine J_region ?_
        refine JL_q (wants_none rfl) rfl (ex_move rfl) ?_
        refine JL_st (wants_none rfl) rfl (st_buildSlice (vs := [.int .i64 11]) ([11] : List Int) Try.underlying27 ti_2 zi_2 rfl rfl rfl (fun w hh => ⟨(Rd.mk_int _ _ _), trivial⟩)) (fun b8 => ?_)
        refine JL_bnd fun r9 hr10 => ?_
        refine JL_call (wants_none rfl) rfl Try.call114 rfl (Ca_self (fun _ => rfl) fun w hh => c_impl_multiply _ w (fun _ hk => hk.elim) _ _ (hh.rd0 1 rfl) _ _ (hh.ow0 0 rfl) _ hr10) (fun x11 => ?_)
        obtain ⟨x11_0, x11_1⟩ := x11
        refine JL_ctx (fun w hh => hh.tkn_rd 0 rfl) ?_
        refine JL_q (wants_none rfl) rfl (ex_assign rfl) ?_
        refine JL_nil ?_
        refine N_block ?_
        refine N_then ?_
        refine J_region ?_
        refine JL_q (wants_none rfl) rfl (ex_move rfl) ?_
        refine JL_q (wants_none rfl) rfl (ex_sub rfl rfl) ?_
        refine JL_q (wants_none rfl) rfl (ex_assign rfl) ?_
        refine JL_nil ?_
        exact N_next' (x11_0, x11_1) ⟨rfl, rfl, trivial⟩ [0, 1] rfl rfl
      · refine J_exit ?_
        refine N_then_exit ?_
        exact N_break' (g5_0, g5_1) ⟨rfl, rfl, trivial⟩ [0, 1] rfl rfl
    · refine JL_passed rfl rfl rfl h6 ?_
      refine JL_passed rfl rfl rfl h6 ?_
      refine JL_passed rfl rfl rfl h6 ?_
      refine JL_q (wants_none rfl) rfl (ex_pick_false rfl h6 rfl) ?_
      refine JL_nil ?_
      refine N_then ?_
      refine J_if_false rfl rfl ?_
      refine J_exit ?_
      refine N_then_exit ?_
      exact N_break' (g5_0, g5_1) ⟨rfl, rfl, trivial⟩ [0, 1] rfl rfl
  · obtain ⟨g5_0, g5_1⟩ := g5
    refine N_then ?_
    refine J_seq ?_
    refine J_region ?_
    refine JL_q (wants_none rfl) rfl (ex_move rfl) ?_
    refine JL_q (wants_none rfl) rfl (ex_assign rfl) ?_
    refine JL_nil ?_
    refine N_then ?_
    refine J_ret ?_
    exact N_ret1 rfl (rv_tmp rfl) (fun w hh => ⟨(g5_0, g5_1), rfl, hh.sel [1] rfl⟩)

set_option maxHeartbeats 40000000 in
theorem c_impl_moved (A : Nat → Prop) (w : World) (hA : ∀ k, A k → k < w.heap.size) (v0_ : Value) (p0 : (List Int)) (hp0 : Rd A w v0_ p0) (p1 : Int) (r : (List Int)) (hr : F_impl_moved p0 p1 = some r) :
    Con Try.prog 117 [v0_, .int .i64 p1] A w (fun x_ : Value => x_) (fun x_ => [.ow 2 x_ r]) := by
  refine Con_of (v := fun (r : (List Int)) (x_ : Value) => x_) (fs := fun r x_ => [.ow 2 x_ r]) Try.func117 rfl Try.ntmps117 rfl ((SH.start hA).start_rd rfl hp0) rfl ?_ hr
  unfold F_impl_moved
  refine J_seq ?_
  refine J_region ?_
  refine JL_q (wants_none rfl) rfl (ex_assign rfl) ?_
  refine JL_nil ?_
  refine N_then ?_
  refine J_seq ?_
  refine J_region ?_
  refine JL_st (wants_none rfl) rfl (st_buildSlice (vs := []) ([] : List Int) Try.underlying27 ti_2 zi_2 rfl rfl rfl (fun w hh => trivial)) (fun b1 => ?_)
  refine JL_q (wants_none rfl) rfl (ex_assign rfl) ?_
  refine JL_nil ?_
  refine N_then ?_
  refine J_seq ?_
  refine J_seq ?_
  refine J_region ?_
  refine JL_q (wants_none rfl) rfl (ex_move rfl) ?_
  refine JL_q (wants_none rfl) rfl (ex_len_rd 1 Try.underlying27 rfl rfl) ?_
  refine JL_q (wants_none rfl) rfl (ex_move rfl) ?_
  refine JL_nil ?_
  refine N_then ?_
  refine J_loop' (S := (List Int) × Int) (G := Value) (F_impl_moved_L1 p0 p1) (fun s2 g3 => [(1, .int .i64 p1), (5, g3), (9, v0_), (10, .int .i64 (p0.length : Int)), (11, .int .i64 s2.2)]) (fun s2 g3 => [.ow 2 g3 s2.1, .rd v0_ p0]) (([] : List Int), 0) (.slice (some ⟨b1, 0, none⟩) 0 0) ⟨rfl, rfl, rfl, rfl, rfl, trivial⟩ [0, 1] rfl rfl (fun s2 g3 => ?_) (fun s2 g3 => ?_)
  · unfold F_impl_moved_L1
    refine J_seq ?_
    refine J_region ?_
    refine JL_q (wants_none rfl) rfl (ex_lss rfl rfl) ?_
    refine JL_nil ?_
    refine N_then ?_
    refine J_seq ?_
    refine J_if rfl (fun h4 => ?_) (fun h4 => ?_)
    · refine J_skip ?_
      refine N_then ?_
      refine J_seq ?_
      refine J_block ?_
      refine J_seq ?_
      refine J_region ?_
      refine JL_bnd fun y5 hy6 => ?_
      refine JL_st (wants_none rfl) rfl (st_index 1 Try.underlying27 ti_2 rfl rfl rfl hy6) (fun q7 => ?_)
      refine JL_st (wants_none rfl) rfl (st_load_pt_o 0 (opens_int _) ti_2 rfl rfl) (fun _ => ?_)
      refine JL_q (wants_none rfl) rfl (ex_assign rfl) ?_
      refine JL_nil ?_
      refine N_then ?_
      refine J_region ?_
      refine JL_q (wants_none rfl) rfl (ex_move rfl) ?_
      refine JL_q (wants_none rfl) rfl (ex_move rfl) ?_
      refine JL_q (wants_none rfl) rfl (ex_move rfl) ?_
      refine JL_q (wants_none rfl) rfl (ex_add rfl rfl) ?_
      refine JL_st (wants_none rfl) rfl (st_buildSlice (vs := [.int .i64 (w64 (y5 + p1))]) ([(w64 (y5 + p1))] : List Int) Try.underlying27 ti_2 zi_2 rfl rfl rfl (fun w hh => ⟨(Rd.mk_int _ _ _), trivial⟩)) (fun b9 => ?_)
      refine JL_bnd fun z10 hz11 => ?_
      refine JL_st (wants_none rfl) rfl (st_append 2 Try.underlying27 ti_2 zi_2 rfl bi_2 rfl rfl rfl rfl (fun w hh => hh.src_ow 0 rfl) hz11) (fun v12 => ?_)
      refine JL_q (wants_none rfl) rfl (ex_assign rfl) ?_
      refine JL_nil ?_
      refine N_block ?_
      refine N_then ?_
      refine J_region ?_
      refine JL_q (wants_none rfl) rfl (ex_add rfl rfl) ?_
      refine JL_q (wants_none rfl) rfl (ex_move rfl) ?_
      refine JL_nil ?_
      exact N_next' v12 ⟨rfl, rfl, rfl, rfl, rfl, trivial⟩ [2, 3] rfl rfl
    · refine J_exit ?_
      refine N_then_exit ?_
      exact N_break' g3 ⟨rfl, rfl, rfl, rfl, rfl, trivial⟩ [0, 1] rfl rfl
  · refine N_then ?_
    refine J_seq ?_
    refine J_region ?_
    refine JL_q (wants_none rfl) rfl (ex_move rfl) ?_
    refine JL_q (wants_none rfl) rfl (ex_assign rfl) ?_
    refine JL_nil ?_
    refine N_then ?_
    refine J_ret ?_
    exact N_ret1 rfl (rv_tmp rfl) (fun w hh => ⟨g3, rfl, hh.sel [0] rfl⟩)

set_option maxHeartbeats 40000000 in
theorem c_slices_Clone_Sint64_int64 (A : Nat → Prop) (w : World) (hA : ∀ k, A k → k < w.heap.size) (v0_ : Value) (p0 : (List Int)) (hp0 : Rd A w v0_ p0) (r : (List Int)) (hr : F_slices_Clone_Sint64_int64 p0 = some r) :
    Con Try.prog 42 [v0_] A w (fun x_ : Value => x_) (fun x_ => [.ow 2 x_ r]) := by
  refine Con_of (v := fun (r : (List Int)) (x_ : Value) => x_) (fs := fun r x_ => [.ow 2 x_ r]) Try.func42 rfl Try.ntmps42 rfl ((SH.start hA).start_rd rfl hp0) rfl ?_ hr
  unfold F_slices_Clone_Sint64_int64
  refine J_seq ?_
  refine J_region ?_
  refine JL_q (wants_none rfl) rfl (ex_assign rfl) ?_
  refine JL_nil ?_
  refine N_then ?_
  refine J_seq ?_
  refine J_seq ?_
  refine J_region ?_
  refine JL_q (wants_none rfl) rfl (ex_move rfl) ?_
  refine JL_eqnil 0 Try.underlying27 rfl rfl (wants_none rfl) rfl (fun hx1 => ?_) ?_
  · refine JL_conv (E' := (some ([] : (List Int)))) (by rw [hx1]; rfl) ?_
    refine JL_nil ?_
    refine N_then ?_
    refine J_if_true rfl rfl ?_
    refine J_seq ?_
    refine J_region ?_
    refine JL_q (wants_none rfl) rfl (ex_assign rfl) ?_
    refine JL_nil ?_
    refine N_then ?_
    refine J_ret ?_
    refine N_then_ret ?_
    refine N_ctx (fun w hh => SH.ow_nil (α := Int) 2 hh) ?_
    exact N_ret1 rfl (rv_tmp rfl) (fun w hh => ⟨(.slice none 0 0 : Value), rfl, hh.sel [0] rfl⟩)
  · refine JL_nil ?_
    refine N_then ?_
    refine J_if_false rfl rfl ?_
    refine J_skip ?_
    refine N_then ?_
    refine J_seq ?_
    refine J_region ?_
    refine JL_st (wants_none rfl) rfl (st_buildSlice (vs := []) ([] : List Int) Try.underlying27 ti_2 zi_2 rfl rfl rfl (fun w hh => trivial)) (fun b2 => ?_)
    refine JL_q (wants_none rfl) rfl (ex_move rfl) ?_
    refine JL_bnd fun z3 hz4 => ?_
    refine JL_st (wants_none rfl) rfl (st_append 0 Try.underlying27 ti_2 zi_2 rfl bi_2 rfl rfl rfl rfl (fun w hh => hh.src_rd 1 rfl) hz4) (fun v5 => ?_)
    refine JL_q (wants_none rfl) rfl (ex_assign rfl) ?_
    refine JL_nil ?_
    refine N_then ?_
    refine J_ret ?_
    exact N_ret1 rfl (rv_tmp rfl) (fun w hh => ⟨v5, rfl, hh.sel [0] rfl⟩)

set_option maxHeartbeats 40000000 in
theorem c_impl_reversed (A : Nat → Prop) (w : World) (hA : ∀ k, A k → k < w.heap.size) (v0_ : Value) (p0 : (List Int)) (hp0 : Rd A w v0_ p0) (r : (List Int)) (hr : F_impl_reversed p0 = some r) :
    Con Try.prog 93 [v0_] A w (fun x_ : Value => x_) (fun x_ => [.ow 2 x_ r]) := by
  refine Con_of (v := fun (r : (List Int)) (x_ : Value) => x_) (fs := fun r x_ => [.ow 2 x_ r]) Try.func93 rfl Try.ntmps93 rfl ((SH.start hA).start_rd rfl hp0) rfl ?_ hr
  unfold F_impl_reversed
  refine J_seq ?_
  refine J_region ?_
  refine JL_q (wants_none rfl) rfl (ex_assign rfl) ?_
  refine JL_nil ?_
  refine N_then ?_
  refine J_seq ?_
  refine J_region ?_
  refine JL_q (wants_none rfl) rfl (ex_move rfl) ?_
  refine JL_bnd fun r1 hr2 => ?_
  refine JL_call (wants_none rfl) rfl Try.call42 rfl (Ca_self (fun _ => rfl) fun w hh => c_slices_Clone_Sint64_int64 _ w (fun _ hk => hk.elim) _ _ (hh.rd0 0 rfl) _ hr2) (fun x3 => ?_)
  refine JL_q (wants_none rfl) rfl (ex_assign rfl) ?_
  refine JL_nil ?_
  refine N_then ?_
  refine J_seq ?_
  refine J_region ?_
  refine JL_q (wants_none rfl) rfl (ex_move rfl) ?_
  refine JL_inline (wants_none rfl) rfl Try.call135 rfl Try.func135 rfl Try.ntmps135 rfl rfl (fun K_ hK4 => ?_)
  refine J_seq ?_
  refine J_region ?_
  refine JL_q (wants_none rfl) rfl (ex_move rfl) ?_
  refine JL_q (wants_none rfl) rfl (ex_len_ow 0 Try.underlying27 rfl rfl) ?_
  refine JL_q (wants_none rfl) rfl (ex_sub rfl rfl) ?_
  refine JL_q (wants_none rfl) rfl (ex_assign rfl) ?_
  refine JL_q (wants_none rfl) rfl (ex_assign rfl) ?_
  refine JL_nil ?_
  refine N_then ?_
  refine J_loop' (S := (List Int) × Int × Int) (G := Unit) (F_impl_reversed_L1) (fun s5 _ => [(0, x3), (2, .int .i64 s5.2.1), (3, .int .i64 s5.2.2)]) (fun s5 _ => [.ow 2 x3 s5.1]) (r1, 0, (w64 ((r1.length : Int) - 1))) () ⟨rfl, rfl, rfl, trivial⟩ [0] rfl rfl (fun s5 g6 => ?_) (fun s5 g6 => ?_)
  · unfold F_impl_reversed_L1
    refine J_seq ?_
    refine J_seq ?_
    refine J_region ?_
    refine JL_q (wants_none rfl) rfl (ex_move rfl) ?_
    refine JL_q (wants_none rfl) rfl (ex_move rfl) ?_
    refine JL_q (wants_none rfl) rfl (ex_lss rfl rfl) ?_
    refine JL_nil ?_
    refine N_then ?_
    refine J_if rfl (fun h7 => ?_) (fun h7 => ?_)
    · refine J_skip ?_
      refine N_then ?_
      refine J_seq ?_
      refine J_block ?_
      refine J_draw [0] (by kernel_rfl) ?_
      refine JP_take (i := 0) [] [0] rfl (by kernel_rfl) (by kernel_rfl) (by kernel_rfl) rfl rfl (wants_none rfl) rfl (ex_move rfl) ?_
      refine JP_take (i := 1) [] [0] rfl (by kernel_rfl) (by kernel_rfl) (by kernel_rfl) rfl rfl (wants_none rfl) rfl (ex_move rfl) ?_
      refine JP_take (i := 2) [] [0] rfl (by kernel_rfl) (by kernel_rfl) (by kernel_rfl) rfl rfl (wants_none rfl) rfl (ex_move rfl) ?_
      refine JP_take (i := 3) [] [0] rfl (by kernel_rfl) (by kernel_rfl) (by kernel_rfl) rfl rfl (wants_none rfl) rfl (ex_move rfl) ?_
      refine JP_take (i := 4) [] [0] rfl (by kernel_rfl) (by kernel_rfl) (by kernel_rfl) rfl rfl (wants_none rfl) rfl (ex_move rfl) ?_
      refine JP_take (i := 5) [] [0] rfl (by kernel_rfl) (by kernel_rfl) (by kernel_rfl) rfl rfl (wants_none rfl) rfl (ex_move rfl) ?_
      refine JP_bnd fun y8 hy9 => ?_
      refine JP_ow_open (v := x3) 0 rfl hy9 ?_; rintro b10 cap11 rfl
      refine JP_take (i := 6) [] [0] rfl (by kernel_rfl) (by kernel_rfl) (by kernel_rfl) rfl rfl (wants_none rfl) rfl (ex_index_own Try.underlying27 ti_2 rfl rfl hy9 (by first | rfl | simp)) ?_
      refine JP_take (i := 8) [] [0] rfl (by kernel_rfl) (by kernel_rfl) (by kernel_rfl) rfl rfl (wants_none rfl) rfl (ex_move rfl) ?_
      refine JP_take (i := 9) [] [0] rfl (by kernel_rfl) (by kernel_rfl) (by kernel_rfl) rfl rfl (wants_none rfl) rfl (ex_move rfl) ?_
      refine JP_bnd fun y12 hy13 => ?_
      refine JP_take (i := 10) [] [0] rfl (by kernel_rfl) (by kernel_rfl) (by kernel_rfl) rfl rfl (wants_none rfl) rfl (ex_index_own Try.underlying27 ti_2 rfl rfl hy13 (by first | rfl | simp)) ?_
      refine JP_go [] [0] rfl rfl rfl (fun w15 h1_16 hp14 => ?_)
      refine JD_two (i := 7) (j := 11) (by kernel_rfl) ?_ ?_
      · refine JO_q rfl (wants_none rfl) rfl (ex_load_ow_int 0 ti_2 rfl rfl hy9) ?_
        refine JD_one (i := 11) (by kernel_rfl) ?_
        refine JO_q rfl (wants_none rfl) rfl (ex_load_ow_int 0 ti_2 rfl rfl hy13) ?_
        refine JD_bnd fun y19 hy20 => ?_
        refine JD_take (i := 12) hp14 rfl (by kernel_rfl) (by kernel_rfl) (by kernel_rfl) (wants_none rfl) rfl (ex_index_own Try.underlying27 ti_2 rfl rfl hy20 (by first | rfl | simp)) ?_
        refine JD_one (i := 13) (by kernel_rfl) ?_
        refine JO_sk rfl (wants_none rfl) (sk_store_ow 0 ti_2 rfl rfl rfl hy20 (fun w hh => (Rd.mk_int _ _ _))) (sub_owl 0 rfl) ?_
        refine JD_bnd fun y21 hy22 => ?_
        refine JD_one (i := 14) (by kernel_rfl) ?_
        refine JO_q rfl (wants_none rfl) rfl (ex_index_ow 0 Try.underlying27 ti_2 rfl rfl rfl hy22) ?_
        refine JD_one (i := 15) (by kernel_rfl) ?_
        refine JO_sk rfl (wants_none rfl) (sk_store_ow 0 ti_2 rfl rfl rfl hy22 (fun w hh => (Rd.mk_int _ _ _))) (sub_owl 0 rfl) ?_
        refine JD_done (by kernel_rfl) ?_
        refine N_block ?_
        refine N_then ?_
        refine J_region ?_
        refine JL_q (wants_none rfl) rfl (ex_move rfl) ?_
        refine JL_q (wants_none rfl) rfl (ex_add rfl rfl) ?_
        refine JL_q (wants_none rfl) rfl (ex_move rfl) ?_
        refine JL_q (wants_none rfl) rfl (ex_sub rfl rfl) ?_
        refine JL_q (wants_none rfl) rfl (ex_assign rfl) ?_
        refine JL_q (wants_none rfl) rfl (ex_assign rfl) ?_
        refine JL_nil ?_
        exact N_next' () ⟨rfl, rfl, rfl, trivial⟩ [0] rfl rfl
      · refine JO_q rfl (wants_none rfl) rfl (ex_load_ow_int 0 ti_2 rfl rfl hy13) ?_
        refine JD_one (i := 7) (by kernel_rfl) ?_
        refine JO_q rfl (wants_none rfl) rfl (ex_load_ow_int 0 ti_2 rfl rfl hy9) ?_
        refine JD_bnd fun y25 hy26 => ?_
        refine JD_take (i := 12) hp14 rfl (by kernel_rfl) (by kernel_rfl) (by kernel_rfl) (wants_none rfl) rfl (ex_index_own Try.underlying27 ti_2 rfl rfl hy26 (by first | rfl | simp)) ?_
        refine JD_one (i := 13) (by kernel_rfl) ?_
        refine JO_sk rfl (wants_none rfl) (sk_store_ow 0 ti_2 rfl rfl rfl hy26 (fun w hh => (Rd.mk_int _ _ _))) (sub_owl 0 rfl) ?_
        refine JD_bnd fun y27 hy28 => ?_
        refine JD_one (i := 14) (by kernel_rfl) ?_
        refine JO_q rfl (wants_none rfl) rfl (ex_index_ow 0 Try.underlying27 ti_2 rfl rfl rfl hy28) ?_
        refine JD_one (i := 15) (by kernel_rfl) ?_
        refine JO_sk rfl (wants_none rfl) (sk_store_ow 0 ti_2 rfl rfl rfl hy28 (fun w hh => (Rd.mk_int _ _ _))) (sub_owl 0 rfl) ?_
        refine JD_done (by kernel_rfl) ?_
        refine N_block ?_
        refine N_then ?_
        refine J_region ?_
        refine JL_q (wants_none rfl) rfl (ex_move rfl) ?_
        refine JL_q (wants_none rfl) rfl (ex_add rfl rfl) ?_
        refine JL_q (wants_none rfl) rfl (ex_move rfl) ?_
        refine JL_q (wants_none rfl) rfl (ex_sub rfl rfl) ?_
        refine JL_q (wants_none rfl) rfl (ex_assign rfl) ?_
        refine JL_q (wants_none rfl) rfl (ex_assign rfl) ?_
        refine JL_nil ?_
        exact N_next' () ⟨rfl, rfl, rfl, trivial⟩ [0] rfl rfl
    · refine J_exit ?_
      refine N_then_exit ?_
      exact N_break' () ⟨rfl, rfl, rfl, trivial⟩ [0] rfl rfl
  · refine N_inl0 (.inr rfl) hK4 rfl ?_
    refine JL_nil ?_
    refine N_then ?_
    refine J_seq ?_
    refine J_region ?_
    refine JL_q (wants_none rfl) rfl (ex_move rfl) ?_
    refine JL_q (wants_none rfl) rfl (ex_assign rfl) ?_
    refine JL_nil ?_
    refine N_then ?_
    refine J_ret ?_
    exact N_ret1 rfl (rv_tmp rfl) (fun w hh => ⟨x3, rfl, hh.sel [0] rfl⟩)

set_option maxHeartbeats 40000000 in
theorem c_impl_carried (A : Nat → Prop) (w : World) (hA : ∀ k, A k → k < w.heap.size) (v0_ : Value) (p0 : (List Int)) (hp0 : Rd A w v0_ p0) (r : (List Int)) (hr : F_impl_carried p0 = some r) :
    Con Try.prog 146 [v0_] A w (fun x_ : Value × List Nat => x_.1) (fun x_ => [.tkn x_.1 r x_.2]) := by
  refine Con_of (v := fun (r : (List Int)) (x_ : Value × List Nat) => x_.1) (fs := fun r x_ => [.tkn x_.1 r x_.2]) Try.func146 rfl Try.ntmps146 rfl ((SH.start hA).start_rd rfl hp0) rfl ?_ hr
  unfold F_impl_carried
  refine J_seq ?_
  refine J_region ?_
  refine JL_q (wants_none rfl) rfl (ex_assign rfl) ?_
  refine JL_nil ?_
  refine N_then ?_
  refine J_seq ?_
  refine J_region ?_
  refine JL_st (wants_none rfl) rfl (st_buildSlice (vs := []) ([] : List Int) Try.underlying27 ti_2 zi_2 rfl rfl rfl (fun w hh => trivial)) (fun b1 => ?_)
  refine JL_q (wants_none rfl) rfl (ex_assign rfl) ?_
  refine JL_q (wants_none rfl) rfl (ex_assign rfl) ?_
  refine JL_nil ?_
  refine N_then ?_
  refine J_seq ?_
  refine J_seq ?_
  refine J_region ?_
  refine JL_q (wants_none rfl) rfl (ex_assign rfl) ?_
  refine JL_nil ?_
  refine N_then ?_
  refine J_loop' (S := (List Int) × Int × Int) (G := Value) (F_impl_carried_L1 p0) (fun s2 g3 => [(0, v0_), (3, g3), (4, .int .i64 s2.2.1), (5, .int .i64 s2.2.2)]) (fun s2 g3 => [.rd v0_ p0, .ow 2 g3 s2.1]) (([] : List Int), 0, 0) (.slice (some ⟨b1, 0, none⟩) 0 0) ⟨rfl, rfl, rfl, rfl, trivial⟩ [1, 0] rfl rfl (fun s2 g3 => ?_) (fun s2 g3 => ?_)
  · unfold F_impl_carried_L1
    refine J_seq ?_
    refine J_seq ?_
    refine J_cut' (S' := Bool) (G' := Unit) (fun s4 _ => [(0, v0_), (3, g3), (4, .int .i64 s2.2.1), (5, .int .i64 s2.2.2), (14, .bool s4)]) (fun s4 _ => [.rd v0_ p0, .ow 2 g3 s2.1]) ?_ (fun s4 g5 => ?_)
    · refine J_region ?_
      refine JL_q (wants_none rfl) rfl (ex_move rfl) ?_
      refine JL_q (wants_none rfl) rfl (ex_move rfl) ?_
      refine JL_q (wants_none rfl) rfl (ex_len_rd 0 Try.underlying27 rfl rfl) ?_
      refine JL_q (wants_none rfl) rfl (ex_lss rfl rfl) ?_
      refine JL_q (wants_none rfl) rfl (ex_move rfl) ?_
      refine JL_cond (fun h6 => ?_) (fun h6 => ?_)
      · refine JL_passed rfl rfl rfl h6 ?_
        refine JL_passed rfl rfl rfl h6 ?_
        refine JL_q (wants_none rfl) rfl (ex_pick_true rfl h6 rfl) ?_
        refine JL_nil ?_
        exact N_meet' () ⟨rfl, rfl, rfl, rfl, rfl, trivial⟩ [0, 1] rfl rfl
      · refine JL_q (wants_some rfl rfl rfl h6) rfl (ex_move rfl) ?_
        refine JL_q (wants_some rfl rfl rfl h6) rfl (ex_gtr rfl rfl) ?_
        refine JL_q (wants_none rfl) rfl (ex_pick_false rfl h6 rfl) ?_
        refine JL_nil ?_
        exact N_meet' () ⟨rfl, rfl, rfl, rfl, rfl, trivial⟩ [0, 1] rfl rfl
    · refine N_then ?_
      refine J_if rfl (fun h7 => ?_) (fun h7 => ?_)
      · refine J_skip ?_
        refine N_then ?_
        refine J_seq ?_
        refine J_block ?_
        refine J_seq ?_
        refine J_seq ?_
        refine J_region ?_
        refine JL_q (wants_none rfl) rfl (ex_move rfl) ?_
        refine JL_q (wants_none rfl) rfl (ex_move rfl) ?_
        refine JL_q (wants_none rfl) rfl (ex_len_rd 0 Try.underlying27 rfl rfl) ?_
        refine JL_q (wants_none rfl) rfl (ex_lss rfl rfl) ?_
        refine JL_nil ?_
        refine N_then ?_
        refine J_if rfl (fun h8 => ?_) (fun h8 => ?_)
        · refine J_region ?_
          refine JL_q (wants_none rfl) rfl (ex_move rfl) ?_
          refine JL_q (wants_none rfl) rfl (ex_move rfl) ?_
          refine JL_q (wants_none rfl) rfl (ex_move rfl) ?_
          refine JL_bnd fun y9 hy10 => ?_
          refine JL_st (wants_none rfl) rfl (st_index 0 Try.underlying27 ti_2 rfl rfl rfl hy10) (fun q11 => ?_)
          refine JL_st (wants_none rfl) rfl (st_load_pt_o 0 (opens_int _) ti_2 rfl rfl) (fun _ => ?_)
          refine JL_q (wants_none rfl) rfl (ex_add rfl rfl) ?_
          refine JL_q (wants_none rfl) rfl (ex_assign rfl) ?_
          refine JL_nil ?_
          refine N_then ?_
          refine J_seq ?_
          refine J_region ?_
          refine JL_q (wants_none rfl) rfl (ex_move rfl) ?_
          refine JL_q (wants_none rfl) rfl (ex_move rfl) ?_
          refine JL_q (wants_none rfl) rfl (ex_rem rfl rfl (by decide)) ?_
          refine JL_st (wants_none rfl) rfl (st_buildSlice (vs := [.int .i64 (Int.tmod (w64 (s2.2.1 + y9)) 1000000)]) ([(Int.tmod (w64 (s2.2.1 + y9)) 1000000)] : List Int) Try.underlying27 ti_2 zi_2 rfl rfl rfl (fun w hh => ⟨(Rd.mk_int _ _ _), trivial⟩)) (fun b13 => ?_)
          refine JL_bnd fun z14 hz15 => ?_
          refine JL_st (wants_none rfl) rfl (st_append 3 Try.underlying27 ti_2 zi_2 rfl bi_2 rfl rfl rfl rfl (fun w hh => hh.src_ow 0 rfl) hz15) (fun v16 => ?_)
          refine JL_q (wants_none rfl) rfl (ex_assign rfl) ?_
          refine JL_nil ?_
          refine N_then ?_
          refine J_region ?_
          refine JL_q (wants_none rfl) rfl (ex_move rfl) ?_
          refine JL_q (wants_none rfl) rfl (ex_quo rfl rfl (by decide)) ?_
          refine JL_q (wants_none rfl) rfl (ex_assign rfl) ?_
          refine JL_nil ?_
          refine N_block ?_
          refine N_then ?_
          refine J_region ?_
          refine JL_q (wants_none rfl) rfl (ex_move rfl) ?_
          refine JL_q (wants_none rfl) rfl (ex_add rfl rfl) ?_
          refine JL_q (wants_none rfl) rfl (ex_assign rfl) ?_
          refine JL_nil ?_
          exact N_next' v16 ⟨rfl, rfl, rfl, rfl, trivial⟩ [2, 3] rfl rfl
        · refine J_skip ?_
          refine N_then ?_
          refine J_seq ?_
          refine J_region ?_
          refine JL_q (wants_none rfl) rfl (ex_move rfl) ?_
          refine JL_q (wants_none rfl) rfl (ex_move rfl) ?_
          refine JL_q (wants_none rfl) rfl (ex_rem rfl rfl (by decide)) ?_
          refine JL_st (wants_none rfl) rfl (st_buildSlice (vs := [.int .i64 (Int.tmod s2.2.1 1000000)]) ([(Int.tmod s2.2.1 1000000)] : List Int) Try.underlying27 ti_2 zi_2 rfl rfl rfl (fun w hh => ⟨(Rd.mk_int _ _ _), trivial⟩)) (fun b17 => ?_)
          refine JL_bnd fun z18 hz19 => ?_
          refine JL_st (wants_none rfl) rfl (st_append 2 Try.underlying27 ti_2 zi_2 rfl bi_2 rfl rfl rfl rfl (fun w hh => hh.src_ow 0 rfl) hz19) (fun v20 => ?_)
          refine JL_q (wants_none rfl) rfl (ex_assign rfl) ?_
          refine JL_nil ?_
          refine N_then ?_
          refine J_region ?_
          refine JL_q (wants_none rfl) rfl (ex_move rfl) ?_
          refine JL_q (wants_none rfl) rfl (ex_quo rfl rfl (by decide)) ?_
          refine JL_q (wants_none rfl) rfl (ex_assign rfl) ?_
          refine JL_nil ?_
          refine N_block ?_
          refine N_then ?_
          refine J_region ?_
          refine JL_q (wants_none rfl) rfl (ex_move rfl) ?_
          refine JL_q (wants_none rfl) rfl (ex_add rfl rfl) ?_
          refine JL_q (wants_none rfl) rfl (ex_assign rfl) ?_
          refine JL_nil ?_
          exact N_next' v20 ⟨rfl, rfl, rfl, rfl, trivial⟩ [1, 2] rfl rfl
      · refine J_exit ?_
        refine N_then_exit ?_
        exact N_break' g3 ⟨rfl, rfl, rfl, rfl, trivial⟩ [0, 1] rfl rfl
  · refine N_then ?_
    refine J_seq ?_
    refine J_region ?_
    refine JL_q (wants_none rfl) rfl (ex_move rfl) ?_
    refine JL_bnd fun r21 hr22 => ?_
    refine JL_call (wants_none rfl) rfl Try.call43 rfl (Ca_self (fun _ => rfl) fun w hh => c_impl_trimmed _ w (fun _ hk => hk.elim) _ _ (hh.ow0 1 rfl) _ hr22) (fun x23 => ?_)
    refine JL_ctx (fun w hh => hh.tokf 2 rfl rfl) ?_
    refine JL_ctx (fun w hh => hh.sub_rd 3 rfl (hh.pr 1 rfl)) ?_
    refine JL_ctx (fun w hh => hh.sub_tkn 1 rfl (hh.pr 2 rfl)) ?_
    refine JL_q (wants_none rfl) rfl (ex_assign rfl) ?_
    refine JL_nil ?_
    refine N_then ?_
    refine J_ret ?_
    exact N_ret1 rfl (rv_tmp rfl) (fun w hh => ⟨(x23, ((g3 : Value).ownBlock.toList ++ [])), rfl, hh.sel [1] rfl⟩)

set_option maxHeartbeats 40000000 in
theorem c_impl_naturalOf (A : Nat → Prop) (w : World) (hA : ∀ k, A k → k < w.heap.size) (p0 : Int) (r : (List Int)) (hr : F_impl_naturalOf p0 = some r) :
    Con Try.prog 163 [.int .i64 p0] A w (fun x_ : Value × List Nat => x_.1) (fun x_ => [.tkn x_.1 r x_.2]) := by
  refine Con_of (v := fun (r : (List Int)) (x_ : Value × List Nat) => x_.1) (fs := fun r x_ => [.tkn x_.1 r x_.2]) Try.func163 rfl Try.ntmps163 rfl (SH.start hA) rfl ?_ hr
  unfold F_impl_naturalOf
  refine J_seq ?_
  refine J_region ?_
  refine JL_q (wants_none rfl) rfl (ex_assign rfl) ?_
  refine JL_nil ?_
  refine N_then ?_
  refine J_seq ?_
  refine J_region ?_
  refine JL_q (wants_none rfl) rfl (ex_move rfl) ?_
  refine JL_st (wants_none rfl) rfl (st_buildSlice (vs := [.int .i64 p0]) ([p0] : List Int) Try.underlying27 ti_2 zi_2 rfl rfl rfl (fun w hh => ⟨(Rd.mk_int _ _ _), trivial⟩)) (fun b1 => ?_)
  refine JL_bnd fun r2 hr3 => ?_
  refine JL_call (wants_none rfl) rfl Try.call146 rfl (Ca_self (fun _ => rfl) fun w hh => c_impl_carried _ w (fun _ hk => hk.elim) _ _ (hh.ow0 0 rfl) _ hr3) (fun x4 => ?_)
  obtain ⟨x4_0, x4_1⟩ := x4
  refine JL_ctx (fun w hh => hh.tkn_rd 0 rfl) ?_
  refine JL_q (wants_none rfl) rfl (ex_assign rfl) ?_
  refine JL_nil ?_
  refine N_then ?_
  refine J_ret ?_
  exact N_ret1 rfl (rv_tmp rfl) (fun w hh => ⟨(x4_0, x4_1), rfl, hh.sel [1] rfl⟩)

end Go.Proofs.Ytgojoooilijiiaa
