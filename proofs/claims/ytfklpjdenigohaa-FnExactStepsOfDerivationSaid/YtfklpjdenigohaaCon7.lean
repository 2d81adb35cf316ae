/-
  Each function of the program computes what its plain function says: printed by program. No condition.
-/
import Derived.Test.YtfklpjdenigohaaFn
import Derived.Test.YtfklpjdenigohaaInf
namespace Go.Proofs.Ytfklpjdenigohaa
open Go Go.Tc Go.Fn
set_option linter.unusedVariables false

set_option maxHeartbeats 4000000 in
theorem c_spec_l16Border (A : Nat → Prop) (w : World) (hA : ∀ k, A k → k < w.heap.size) (v0_ : Value) (p0 : GMachine) (hp0 : RdA A w.heap.size w v0_ p0) (r : Int) (hr : F_spec_l16Border p0 = some r) :
    Con Try.prog 169 [v0_] A w (fun x_ : Unit => .int .i64 r) (fun x_ => []) := by
  refine Con_of (v := fun (r : Int) (x_ : Unit) => .int .i64 r) (fs := fun r x_ => []) Try.func169 rfl Try.ntmps169 rfl ((SH.start hA).start_pa' rfl hp0) rfl ?_ hr
  unfold F_spec_l16Border
  refine J_seq ?_
  refine J_region ?_
  refine JL_q (wants_none rfl) rfl (ex_assign rfl) ?_
  refine JL_nil ?_
  refine N_then ?_
  refine J_seq ?_
  refine J_draw [] (by kernel_rfl) ?_
  refine JP_take (i := 0) [0] [] rfl (by kernel_rfl) (by kernel_rfl) (by kernel_rfl) rfl rfl (wants_none rfl) rfl (ex_move rfl) ?_
  refine JP_take (i := 1) [0] [] rfl (by kernel_rfl) (by kernel_rfl) (by kernel_rfl) rfl rfl (wants_none rfl) rfl (ex_nilCheck_pa 0 rfl rfl) ?_
  refine JP_sq (i := 2) [] rfl (by kernel_rfl) (by kernel_rfl) (by kernel_rfl) rfl (wants_none rfl) rfl (sq_field_pa 0 (GMachine.at_Symbols _) fi_39_0 rfl rfl rfl) (fun q1 => ?_)
  refine JP_sq (i := 3) [] rfl (by kernel_rfl) (by kernel_rfl) (by kernel_rfl) rfl (wants_none rfl) rfl (sq_load_pa_o 0 (opens_int _) ti_2 rfl rfl) (fun _ => ?_)
  refine JP_take (i := 4) [0, 1] [] rfl (by kernel_rfl) (by kernel_rfl) (by kernel_rfl) rfl rfl (wants_none rfl) rfl (ex_move rfl) ?_
  refine JP_take (i := 5) [0, 1] [] rfl (by kernel_rfl) (by kernel_rfl) (by kernel_rfl) rfl rfl (wants_none rfl) rfl (ex_nilCheck_pa 1 rfl rfl) ?_
  refine JP_sq (i := 6) [] rfl (by kernel_rfl) (by kernel_rfl) (by kernel_rfl) rfl (wants_none rfl) rfl (sq_field_pa 1 (GMachine.at_States _) fi_39_1 rfl rfl rfl) (fun q3 => ?_)
  refine JP_sq (i := 7) [] rfl (by kernel_rfl) (by kernel_rfl) (by kernel_rfl) rfl (wants_none rfl) rfl (sq_load_pa_o 0 (opens_int _) ti_2 rfl rfl) (fun _ => ?_)
  refine JP_take (i := 8) [0, 1, 2] [] rfl (by kernel_rfl) (by kernel_rfl) (by kernel_rfl) rfl rfl (wants_none rfl) rfl (ex_add rfl rfl) ?_
  refine JP_take (i := 9) [0, 1, 2] [] rfl (by kernel_rfl) (by kernel_rfl) (by kernel_rfl) rfl rfl (wants_none rfl) rfl (ex_assign rfl) ?_
  refine JP_go [] [] rfl rfl rfl (fun _ _ _ => ?_)
  refine JD_done (by kernel_rfl) ?_
  refine N_then ?_
  refine J_ret ?_
  exact N_ret1 rfl (rv_tmp rfl) (fun w hh => ⟨(), rfl, hh.sel [] rfl⟩)

set_option maxHeartbeats 4000000 in
theorem c_spec_l32Eraser (A : Nat → Prop) (w : World) (hA : ∀ k, A k → k < w.heap.size) (v0_ : Value) (p0 : GMachine) (hp0 : RdA A w.heap.size w v0_ p0) (r : Int) (hr : F_spec_l32Eraser p0 = some r) :
    Con Try.prog 97 [v0_] A w (fun x_ : Unit => .int .i64 r) (fun x_ => []) := by
  refine Con_of (v := fun (r : Int) (x_ : Unit) => .int .i64 r) (fs := fun r x_ => []) Try.func97 rfl Try.ntmps97 rfl ((SH.start hA).start_pa' rfl hp0) rfl ?_ hr
  unfold F_spec_l32Eraser
  refine J_seq ?_
  refine J_region ?_
  refine JL_q (wants_none rfl) rfl (ex_assign rfl) ?_
  refine JL_nil ?_
  refine N_then ?_
  refine J_seq ?_
  refine J_region ?_
  refine JL_q (wants_none rfl) rfl (ex_move rfl) ?_
  refine JL_bnd fun r1 hr2 => ?_
  refine JL_call (wants_none rfl) rfl Try.call169 rfl (Ca_of0 fun w hh => c_spec_l16Border _ w (fun _ hk => hk.elim) _ _ (hh.pa0 0 rfl) _ hr2) (fun _ => ?_)
  refine JL_q (wants_none rfl) rfl (ex_add rfl rfl) ?_
  refine JL_q (wants_none rfl) rfl (ex_assign rfl) ?_
  refine JL_nil ?_
  refine N_then ?_
  refine J_ret ?_
  exact N_ret1 rfl (rv_tmp rfl) (fun w hh => ⟨(), rfl, hh.sel [] rfl⟩)

set_option maxHeartbeats 4000000 in
theorem c_impl_alphabetOf (A : Nat → Prop) (w : World) (hA : ∀ k, A k → k < w.heap.size) (v0_ : Value) (p0 : GMachine) (hp0 : Rd A w v0_ p0) (r : Galphabet × Int) (hr : F_impl_alphabetOf p0 = some r) :
    Con Try.prog 211 [v0_] A w (fun x_ : Unit => .tuple #[.agg #[.int .i64 r.1.state, .int .i64 r.1.border], .int .i64 r.2]) (fun x_ => []) := by
  obtain ⟨v0_0, rfl, hp0_0⟩ := GMachine.open hp0
  refine Con_of (v := fun (r : Galphabet × Int) (x_ : Unit) => .tuple #[.agg #[.int .i64 r.1.state, .int .i64 r.1.border], .int .i64 r.2]) (fs := fun r x_ => []) Try.func211 rfl Try.ntmps211 rfl ((SH.start hA).start_rd rfl hp0_0) rfl ?_ hr
  unfold F_impl_alphabetOf
  refine J_seq ?_
  refine J_region ?_
  refine JL_st (wants_none rfl) rfl (st_box' rfl (fun w hh => (cv_aggs ⟨cv_int, cv_int, (hh.cv 0 rfl), trivial⟩))) (fun b1 => ?_)
  refine JL_st (wants_none rfl) rfl (st_alloc zi_180 rfl) (fun b2 => ?_)
  refine JL_q (wants_none rfl) rfl (ex_assign rfl) ?_
  refine JL_nil ?_
  refine N_then ?_
  refine J_seq ?_
  refine J_region ?_
  refine JL_q (wants_none rfl) rfl (ex_fieldAddr fi_39_0 rfl rfl) ?_
  refine JL_q (wants_none rfl) rfl (ex_load_bx 1 ti_2 rfl rfl rfl) ?_
  refine JL_q (wants_none rfl) rfl (ex_fieldAddr fi_39_0 rfl rfl) ?_
  refine JL_q (wants_none rfl) rfl (ex_load_bx 1 ti_2 rfl rfl rfl) ?_
  refine JL_q (wants_none rfl) rfl (ex_fieldAddr fi_39_1 rfl rfl) ?_
  refine JL_q (wants_none rfl) rfl (ex_load_bx 1 ti_2 rfl rfl rfl) ?_
  refine JL_q (wants_none rfl) rfl (ex_add rfl rfl) ?_
  refine JL_q (wants_none rfl) rfl (ex_build si_180 rfl (.cons fi_180_0 rfl rfl (.cons fi_180_1 rfl rfl .nil)) (fun w hh => ⟨cv_int, cv_int, trivial⟩)) ?_
  refine JL_st (wants_none rfl) rfl (st_alloc zi_180 rfl) (fun b3 => ?_)
  refine JL_sk (wants_none rfl) (sk_store_bx' 0 ti_180 rfl rfl (fun w hh => (cv_aggs ⟨cv_int, cv_int, trivial⟩)) rfl rfl rfl rfl) ?_
  refine JL_nil ?_
  refine N_then ?_
  refine J_seq ?_
  refine J_seq ?_
  refine J_region ?_
  refine JL_q (wants_none rfl) rfl (ex_fieldAddr fi_180_1 rfl rfl) ?_
  refine JL_q (wants_none rfl) rfl (ex_load_bx 0 ti_2 rfl rfl rfl) ?_
  refine JL_q (wants_none rfl) rfl (ex_gtr rfl rfl) ?_
  refine JL_nil ?_
  refine N_then ?_
  refine J_if rfl (fun h4 => ?_) (fun h4 => ?_)
  · refine J_seq ?_
    refine J_region ?_
    refine JL_q (wants_none rfl) rfl (ex_build si_180 rfl .nil (fun w hh => trivial)) ?_
    refine JL_sk (wants_none rfl) (sk_store_bx' 1 ti_180 rfl rfl (fun w hh => (cv_aggs ⟨cv_int, cv_int, trivial⟩)) rfl rfl rfl rfl) ?_
    refine JL_q (wants_none rfl) rfl (ex_assign rfl) ?_
    refine JL_nil ?_
    refine N_then ?_
    refine J_ret ?_
    refine N_then_ret ?_
    exact N_ret2 rfl (rv_cell 1 rfl rfl ti_180 rfl) (rv_tmp rfl) (fun w hh => ⟨(), rfl, hh.sel [] rfl⟩)
  · refine J_skip ?_
    refine N_then ?_
    refine J_seq ?_
    refine J_region ?_
    refine JL_q (wants_none rfl) rfl (ex_load_bx_agg 0 ti_180 rfl rfl rfl rfl) ?_
    refine JL_sk (wants_none rfl) (sk_store_bx' 1 ti_180 rfl rfl (fun w hh => (cv_aggs ⟨cv_int, cv_int, trivial⟩)) rfl rfl rfl rfl) ?_
    refine JL_q (wants_none rfl) rfl (ex_assign rfl) ?_
    refine JL_nil ?_
    refine N_then ?_
    refine J_ret ?_
    exact N_ret2 rfl (rv_cell 1 rfl rfl ti_180 rfl) (rv_tmp rfl) (fun w hh => ⟨(), rfl, hh.sel [] rfl⟩)

set_option maxHeartbeats 4000000 in
theorem c_impl_eraserOf (A : Nat → Prop) (w : World) (hA : ∀ k, A k → k < w.heap.size) (v0_ : Value) (p0 : GMachine) (hp0 : Rd A w v0_ p0) (r : Galphabet × Int × Int) (hr : F_impl_eraserOf p0 = some r) :
    Con Try.prog 172 [v0_] A w (fun x_ : Unit => .tuple #[.agg #[.int .i64 r.1.state, .int .i64 r.1.border], .int .i64 r.2.1, .int .i64 r.2.2]) (fun x_ => []) := by
  obtain ⟨v0_0, rfl, hp0_0⟩ := GMachine.open hp0
  refine Con_of (v := fun (r : Galphabet × Int × Int) (x_ : Unit) => .tuple #[.agg #[.int .i64 r.1.state, .int .i64 r.1.border], .int .i64 r.2.1, .int .i64 r.2.2]) (fs := fun r x_ => []) Try.func172 rfl Try.ntmps172 rfl ((SH.start hA).start_rd rfl hp0_0) rfl ?_ hr
  unfold F_impl_eraserOf
  refine J_seq ?_
  refine J_region ?_
  refine JL_st (wants_none rfl) rfl (st_box' rfl (fun w hh => (cv_aggs ⟨cv_int, cv_int, (hh.cv 0 rfl), trivial⟩))) (fun b1 => ?_)
  refine JL_st (wants_none rfl) rfl (st_alloc zi_180 rfl) (fun b2 => ?_)
  refine JL_q (wants_none rfl) rfl (ex_assign rfl) ?_
  refine JL_q (wants_none rfl) rfl (ex_assign rfl) ?_
  refine JL_nil ?_
  refine N_then ?_
  refine J_seq ?_
  refine J_region ?_
  refine JL_q (wants_none rfl) rfl (ex_load_bx_agg 1 ti_39 rfl rfl rfl rfl) ?_
  refine JL_bnd fun r3 hr4 => ?_
  refine JL_call (wants_none rfl) rfl Try.call211 rfl (Ca_of0 fun w hh => c_impl_alphabetOf _ w (fun _ hk => hk.elim) _ _ (GMachine.rdmk (Rd.mk_int _ _ _) (Rd.mk_int _ _ _) (hh.rd0 2 rfl)) _ hr4) (fun _ => ?_)
  refine JL_q (wants_none rfl) rfl (ex_move rfl) ?_
  refine JL_q (wants_none rfl) rfl (ex_extract rfl rfl) ?_
  refine JL_q (wants_none rfl) rfl (ex_extract rfl rfl) ?_
  refine JL_st (wants_none rfl) rfl (st_alloc zi_180 rfl) (fun b5 => ?_)
  refine JL_sk (wants_none rfl) (sk_store_bx' 0 ti_180 rfl rfl (fun w hh => (cv_aggs ⟨cv_int, cv_int, trivial⟩)) rfl rfl rfl rfl) ?_
  refine JL_q (wants_none rfl) rfl (ex_assign rfl) ?_
  refine JL_nil ?_
  refine N_then ?_
  refine J_seq ?_
  refine J_seq ?_
  refine J_region ?_
  refine JL_q (wants_none rfl) rfl (ex_move rfl) ?_
  refine JL_q (wants_none rfl) rfl (ex_neq rfl rfl) ?_
  refine JL_q (wants_none rfl) rfl (ex_move rfl) ?_
  refine JL_cond (fun h6 => ?_) (fun h6 => ?_)
  · refine JL_passed rfl rfl rfl h6 ?_
    refine JL_passed rfl rfl rfl h6 ?_
    refine JL_passed rfl rfl rfl h6 ?_
    refine JL_passed rfl rfl rfl h6 ?_
    refine JL_q (wants_none rfl) rfl (ex_pick_true rfl h6 rfl) ?_
    refine JL_nil ?_
    refine N_then ?_
    refine J_if_true rfl rfl ?_
    refine J_seq ?_
    refine J_region ?_
    refine JL_q (wants_none rfl) rfl (ex_build si_180 rfl .nil (fun w hh => trivial)) ?_
    refine JL_sk (wants_none rfl) (sk_store_bx' 1 ti_180 rfl rfl (fun w hh => (cv_aggs ⟨cv_int, cv_int, trivial⟩)) rfl rfl rfl rfl) ?_
    refine JL_q (wants_none rfl) rfl (ex_assign rfl) ?_
    refine JL_q (wants_none rfl) rfl (ex_assign rfl) ?_
    refine JL_nil ?_
    refine N_then ?_
    refine J_ret ?_
    refine N_then_ret ?_
    exact N_ret3 rfl (rv_cell 1 rfl rfl ti_180 rfl) (rv_tmp rfl) (rv_tmp rfl) (fun w hh => ⟨(), rfl, hh.sel [] rfl⟩)
  · refine JL_q (wants_some rfl rfl rfl h6) rfl (ex_fieldAddr fi_180_1 rfl rfl) ?_
    refine JL_q (wants_some rfl rfl rfl h6) rfl (ex_load_bx 0 ti_2 rfl rfl rfl) ?_
    refine JL_q (wants_some rfl rfl rfl h6) rfl (ex_add rfl rfl) ?_
    refine JL_q (wants_some rfl rfl rfl h6) rfl (ex_gtr rfl rfl) ?_
    refine JL_q (wants_none rfl) rfl (ex_pick_false rfl h6 rfl) ?_
    refine JL_nil ?_
    refine N_then ?_
    refine J_if rfl (fun h7 => ?_) (fun h7 => ?_)
    · refine J_seq ?_
      refine J_region ?_
      refine JL_q (wants_none rfl) rfl (ex_build si_180 rfl .nil (fun w hh => trivial)) ?_
      refine JL_sk (wants_none rfl) (sk_store_bx' 1 ti_180 rfl rfl (fun w hh => (cv_aggs ⟨cv_int, cv_int, trivial⟩)) rfl rfl rfl rfl) ?_
      refine JL_q (wants_none rfl) rfl (ex_assign rfl) ?_
      refine JL_q (wants_none rfl) rfl (ex_assign rfl) ?_
      refine JL_nil ?_
      refine N_then ?_
      refine J_ret ?_
      refine N_then_ret ?_
      exact N_ret3 rfl (rv_cell 1 rfl rfl ti_180 rfl) (rv_tmp rfl) (rv_tmp rfl) (fun w hh => ⟨(), rfl, hh.sel [] rfl⟩)
    · refine J_skip ?_
      refine N_then ?_
      refine J_seq ?_
      refine J_draw [1] (by kernel_rfl) ?_
      refine JP_take (i := 0) [0, 2, 3] [1] rfl (by kernel_rfl) (by kernel_rfl) (by kernel_rfl) rfl rfl (wants_none rfl) rfl (ex_load_bx_agg 0 ti_180 rfl rfl rfl rfl) ?_
      refine JP_take (i := 1) [0, 2, 3] [1] rfl (by kernel_rfl) (by kernel_rfl) (by kernel_rfl) rfl rfl (wants_none rfl) rfl (ex_fieldAddr fi_180_1 rfl rfl) ?_
      refine JP_take (i := 2) [0, 2, 3] [1] rfl (by kernel_rfl) (by kernel_rfl) (by kernel_rfl) rfl rfl (wants_none rfl) rfl (ex_load_bx 0 ti_2 rfl rfl rfl) ?_
      refine JP_take (i := 3) [0, 2, 3] [1] rfl (by kernel_rfl) (by kernel_rfl) (by kernel_rfl) rfl rfl (wants_none rfl) rfl (ex_add rfl rfl) ?_
      refine JP_go [0, 2, 3] [1] rfl rfl rfl (fun w9 h1_10 hp8 => ?_)
      refine JD_one (i := 4) (by kernel_rfl) ?_
      refine JO_sk rfl (wants_none rfl) (sk_store_bx' 1 ti_180 rfl rfl (fun w hh => (cv_aggs ⟨cv_int, cv_int, trivial⟩)) rfl rfl rfl rfl) (sub_bx 0 rfl) ?_
      refine JD_take (i := 5) hp8 rfl (by kernel_rfl) (by kernel_rfl) (by kernel_rfl) (wants_none rfl) rfl (ex_assign rfl) ?_
      refine JD_take (i := 6) hp8 rfl (by kernel_rfl) (by kernel_rfl) (by kernel_rfl) (wants_none rfl) rfl (ex_assign rfl) ?_
      refine JD_done (by kernel_rfl) ?_
      refine N_then ?_
      refine J_ret ?_
      exact N_ret3 rfl (rv_cell 1 rfl rfl ti_180 rfl) (rv_tmp rfl) (rv_tmp rfl) (fun w hh => ⟨(), rfl, hh.sel [] rfl⟩)

end Go.Proofs.Ytfklpjdenigohaa
