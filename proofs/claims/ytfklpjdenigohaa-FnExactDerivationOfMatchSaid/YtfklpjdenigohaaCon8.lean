/-
  Each function of the program computes what its plain function says: printed by program. No condition.
-/
import Derived.Test.YtfklpjdenigohaaFn
import Derived.Test.YtfklpjdenigohaaInf
namespace Go.Proofs.Ytfklpjdenigohaa
open Go Go.Tc Go.Fn
set_option linter.unusedVariables false

set_option maxHeartbeats 4000000 in
theorem c_slices_IndexFunc_SSint64_Sint64 (A : Nat → Prop) (w : World) (hA : ∀ k, A k → k < w.heap.size) (v0_ : Value) (p0 : (List (List Int))) (hp0 : Rd A w v0_ p0) (v1_ : Value) (p1 : ((List Int) → Option Bool)) (hp1 : Clo Try.prog w v1_ p1 .bool) (r : Int) (hr : F_slices_IndexFunc_SSint64_Sint64 p0 p1 = some r) :
    Con Try.prog 205 [v0_, v1_] A w (fun x_ : Unit => .int .i64 r) (fun x_ => []) := by
  refine Con_of (v := fun (r : Int) (x_ : Unit) => .int .i64 r) (fs := fun r x_ => []) Try.func205 rfl Try.ntmps205 rfl ((SH.start hA).start_rd rfl hp0) rfl ?_ hr
  unfold F_slices_IndexFunc_SSint64_Sint64
  refine J_seq ?_
  refine J_region ?_
  refine JL_q (wants_none rfl) rfl (ex_assign rfl) ?_
  refine JL_nil ?_
  refine N_then ?_
  refine J_seq ?_
  refine J_seq ?_
  refine J_region ?_
  refine JL_q (wants_none rfl) rfl (ex_move rfl) ?_
  refine JL_q (wants_none rfl) rfl (ex_len_rd 0 Try.underlying22 rfl rfl) ?_
  refine JL_q (wants_none rfl) rfl (ex_move rfl) ?_
  refine JL_nil ?_
  refine N_then ?_
  refine J_loop' (S := Int) (G := Unit) (F_slices_IndexFunc_SSint64_Sint64_L1 p0 p1) (fun s1 _ => [(0, v0_), (1, v1_), (7, .int .i64 (p0.length : Int)), (8, .int .i64 s1)]) (fun s1 _ => [.rd v0_ p0]) 0 () ⟨rfl, rfl, rfl, rfl, trivial⟩ [0] rfl rfl (fun s1 g2 => ?_) (fun s1 g2 => ?_)
  · unfold F_slices_IndexFunc_SSint64_Sint64_L1
    refine J_seq ?_
    refine J_region ?_
    refine JL_q (wants_none rfl) rfl (ex_lss rfl rfl) ?_
    refine JL_nil ?_
    refine N_then ?_
    refine J_seq ?_
    refine J_if rfl (fun h3 => ?_) (fun h3 => ?_)
    · refine J_skip ?_
      refine N_then ?_
      refine J_seq ?_
      refine J_block ?_
      refine J_seq ?_
      refine J_region ?_
      refine JL_q (wants_none rfl) rfl (ex_move rfl) ?_
      refine JL_q (wants_none rfl) rfl (ex_assign rfl) ?_
      refine JL_nil ?_
      refine N_then ?_
      refine J_seq ?_
      refine J_region ?_
      refine JL_q (wants_none rfl) rfl (ex_move rfl) ?_
      refine JL_q (wants_none rfl) rfl (ex_move rfl) ?_
      refine JL_q (wants_none rfl) rfl (ex_move rfl) ?_
      refine JL_bnd fun y4 hy5 => ?_
      refine JL_st (wants_none rfl) rfl (st_index 0 Try.underlying22 ti_31 rfl rfl rfl hy5) (fun q6 => ?_)
      refine JL_st (wants_none rfl) rfl (st_load_pt_o 0 (opens_sl _) ti_31 rfl rfl) (fun v7 => ?_)
      refine JL_bnd fun r8 hr9 => ?_
      refine JL_clo (wants_none rfl) rfl hp1 rfl rfl (fun w hh => (hh.rd0 0 rfl)) hr9 ?_
      refine JL_nil ?_
      refine N_then ?_
      refine J_if rfl (fun h10 => ?_) (fun h10 => ?_)
      · refine J_seq ?_
        refine J_region ?_
        refine JL_q (wants_none rfl) rfl (ex_move rfl) ?_
        refine JL_q (wants_none rfl) rfl (ex_assign rfl) ?_
        refine JL_nil ?_
        refine N_then ?_
        refine J_ret ?_
        refine N_block_ret ?_
        refine N_then_ret ?_
        refine N_round_ret ?_
        refine N_then_ret ?_
        exact N_ret1 rfl (rv_tmp rfl) (fun w hh => ⟨(), rfl, hh.sel [] rfl⟩)
      · refine J_skip ?_
        refine N_block ?_
        refine N_then ?_
        refine J_region ?_
        refine JL_q (wants_none rfl) rfl (ex_add rfl rfl) ?_
        refine JL_q (wants_none rfl) rfl (ex_move rfl) ?_
        refine JL_nil ?_
        exact N_next' () ⟨rfl, rfl, rfl, rfl, trivial⟩ [2] rfl rfl
    · refine J_exit ?_
      refine N_then_exit ?_
      exact N_break' () ⟨rfl, rfl, rfl, rfl, trivial⟩ [0] rfl rfl
  · refine N_then ?_
    refine J_seq ?_
    refine J_region ?_
    refine JL_q (wants_none rfl) rfl (ex_assign rfl) ?_
    refine JL_nil ?_
    refine N_then ?_
    refine J_ret ?_
    exact N_ret1 rfl (rv_tmp rfl) (fun w hh => ⟨(), rfl, hh.sel [] rfl⟩)

set_option maxHeartbeats 4000000 in
theorem c_slices_ContainsFunc_SSint64_Sint64 (A : Nat → Prop) (w : World) (hA : ∀ k, A k → k < w.heap.size) (v0_ : Value) (p0 : (List (List Int))) (hp0 : Rd A w v0_ p0) (v1_ : Value) (p1 : ((List Int) → Option Bool)) (hp1 : Clo Try.prog w v1_ p1 .bool) (r : Bool) (hr : F_slices_ContainsFunc_SSint64_Sint64 p0 p1 = some r) :
    Con Try.prog 164 [v0_, v1_] A w (fun x_ : Unit => .bool r) (fun x_ => []) := by
  refine Con_of (v := fun (r : Bool) (x_ : Unit) => .bool r) (fs := fun r x_ => []) Try.func164 rfl Try.ntmps164 rfl ((SH.start hA).start_rd rfl hp0) rfl ?_ hr
  unfold F_slices_ContainsFunc_SSint64_Sint64
  refine J_seq ?_
  refine J_region ?_
  refine JL_q (wants_none rfl) rfl (ex_assign rfl) ?_
  refine JL_nil ?_
  refine N_then ?_
  refine J_seq ?_
  refine J_region ?_
  refine JL_q (wants_none rfl) rfl (ex_move rfl) ?_
  refine JL_q (wants_none rfl) rfl (ex_move rfl) ?_
  refine JL_bnd fun r1 hr2 => ?_
  refine JL_call (wants_none rfl) rfl Try.call205 rfl (Ca_of0 fun w hh => c_slices_IndexFunc_SSint64_Sint64 _ w (fun _ hk => hk.elim) _ _ (hh.rd0 0 rfl) _ _ (hp1.later hh.below) _ hr2) (fun _ => ?_)
  refine JL_q (wants_none rfl) rfl (ex_geq rfl rfl) ?_
  refine JL_q (wants_none rfl) rfl (ex_assign rfl) ?_
  refine JL_nil ?_
  refine N_then ?_
  refine J_ret ?_
  exact N_ret1 rfl (rv_tmp rfl) (fun w hh => ⟨(), rfl, hh.sel [] rfl⟩)

end Go.Proofs.Ytfklpjdenigohaa
