/-
  Each function of the program computes what its plain function says: printed by program. No condition.
-/
import Derived.Test.YtnpkepfmicgelaaDoorFn
import Derived.Test.YtnpkepfmicgelaaDoorInf
namespace Go.Proofs.YtnpkepfmicgelaaDoor
open Go Go.Tc Go.Fn
set_option linter.unusedVariables false

set_option maxHeartbeats 40000000 in
theorem c_spec_l01Split (A : Nat → Prop) (w : World) (hA : ∀ k, A k → k < w.heap.size) (p0 : ByteArray) (p1 : (Ik .u8)) (r : (List ByteArray)) (hr : F_spec_l01Split p0 p1 = some r) :
    Con Tryd.prog 27 [.string p0, .int .u8 p1.val] A w (fun x_ : Value => x_) (fun x_ => [.ow 9 x_ r]) := by
  refine Con_of (v := fun (r : (List ByteArray)) (x_ : Value) => x_) (fs := fun r x_ => [.ow 9 x_ r]) Tryd.func27 rfl Tryd.ntmps27 rfl (SH.start hA) rfl ?_ hr
  unfold F_spec_l01Split
  refine J_seq ?_
  refine J_region ?_
  refine JL_q (wants_none rfl) rfl (ex_assign rfl) ?_
  refine JL_nil ?_
  refine N_then ?_
  refine J_seq ?_
  refine J_region ?_
  refine JL_st (wants_none rfl) rfl (st_buildSlice (vs := []) ([] : List ByteArray) Tryd.underlying43 ti_9 zi_9 rfl rfl rfl (fun w hh => trivial)) (fun b1 => ?_)
  refine JL_q (wants_none rfl) rfl (ex_assign rfl) ?_
  refine JL_nil ?_
  refine N_then ?_
  refine J_seq ?_
  refine J_region ?_
  refine JL_q (wants_none rfl) rfl (ex_assign rfl) ?_
  refine JL_nil ?_
  refine N_then ?_
  refine J_seq ?_
  refine J_seq ?_
  refine J_region ?_
  refine JL_q (wants_none rfl) rfl (ex_assign rfl) ?_
  refine JL_nil ?_
  refine N_then ?_
  refine J_loop' (S := (List ByteArray) × Int × Int) (G := Value) (F_spec_l01Split_L1 p0 p1) (fun s2 g3 => [(0, .string p0), (1, .int .u8 p1.val), (5, g3), (6, .int .i64 s2.2.1), (7, .int .i64 s2.2.2)]) (fun s2 g3 => [.ow 9 g3 s2.1]) (([] : List ByteArray), 0, 0) (.slice (some ⟨b1, 0, none⟩) 0 0) ⟨rfl, rfl, rfl, rfl, rfl, trivial⟩ [0] rfl rfl (fun s2 g3 => ?_) (fun s2 g3 => ?_)
  · unfold F_spec_l01Split_L1
    refine J_seq ?_
    refine J_seq ?_
    refine J_region ?_
    refine JL_q (wants_none rfl) rfl (ex_move rfl) ?_
    refine JL_q (wants_none rfl) rfl (ex_move rfl) ?_
    refine JL_q (wants_none rfl) rfl (ex_len_str Tryd.underlying9 rfl) ?_
    refine JL_q (wants_none rfl) rfl (ex_lss rfl rfl) ?_
    refine JL_nil ?_
    refine N_then ?_
    refine J_if rfl (fun h4 => ?_) (fun h4 => ?_)
    · refine J_skip ?_
      refine N_then ?_
      refine J_seq ?_
      refine J_block ?_
      refine J_seq ?_
      refine J_region ?_
      refine JL_q (wants_none rfl) rfl (ex_move rfl) ?_
      refine JL_q (wants_none rfl) rfl (ex_move rfl) ?_
      refine JL_bnd fun y5 hy6 => ?_
      refine JL_q (wants_none rfl) rfl (ex_index_str Tryd.underlying9 rfl rfl hy6) ?_
      refine JL_q (wants_none rfl) rfl (ex_move rfl) ?_
      refine JL_q (wants_none rfl) rfl (ex_eql rfl rfl) ?_
      refine JL_nil ?_
      refine N_then ?_
      refine J_if rfl (fun h7 => ?_) (fun h7 => ?_)
      · refine J_seq ?_
        refine J_region ?_
        refine JL_q (wants_none rfl) rfl (ex_move rfl) ?_
        refine JL_q (wants_none rfl) rfl (ex_move rfl) ?_
        refine JL_q (wants_none rfl) rfl (ex_move rfl) ?_
        refine JL_q (wants_none rfl) rfl (ex_move rfl) ?_
        refine JL_bnd fun z8 hz9 => ?_
        refine JL_q (wants_none rfl) rfl (ex_slice_str Tryd.underlying9 rfl rfl rfl hz9) ?_
        refine JL_st (wants_none rfl) rfl (st_buildSlice (vs := [.string z8]) ([z8] : List ByteArray) Tryd.underlying43 ti_9 zi_9 rfl rfl rfl (fun w hh => ⟨(Rd.mk_str _ _ _), trivial⟩)) (fun b10 => ?_)
        refine JL_bnd fun z11 hz12 => ?_
        refine JL_st (wants_none rfl) rfl (st_append 1 Tryd.underlying43 ti_9 zi_9 rfl bi_9 rfl rfl rfl rfl (fun w hh => hh.src_ow 0 rfl) hz12) (fun v13 => ?_)
        refine JL_q (wants_none rfl) rfl (ex_assign rfl) ?_
        refine JL_nil ?_
        refine N_then ?_
        refine J_region ?_
        refine JL_q (wants_none rfl) rfl (ex_move rfl) ?_
        refine JL_q (wants_none rfl) rfl (ex_add rfl rfl) ?_
        refine JL_q (wants_none rfl) rfl (ex_assign rfl) ?_
        refine JL_nil ?_
        refine N_block ?_
        refine N_then ?_
        refine J_region ?_
        refine JL_q (wants_none rfl) rfl (ex_move rfl) ?_
        refine JL_q (wants_none rfl) rfl (ex_add rfl rfl) ?_
        refine JL_q (wants_none rfl) rfl (ex_assign rfl) ?_
        refine JL_nil ?_
        exact N_next' v13 ⟨rfl, rfl, rfl, rfl, rfl, trivial⟩ [1] rfl rfl
      · refine J_skip ?_
        refine N_block ?_
        refine N_then ?_
        refine J_region ?_
        refine JL_q (wants_none rfl) rfl (ex_move rfl) ?_
        refine JL_q (wants_none rfl) rfl (ex_add rfl rfl) ?_
        refine JL_q (wants_none rfl) rfl (ex_assign rfl) ?_
        refine JL_nil ?_
        exact N_next' g3 ⟨rfl, rfl, rfl, rfl, rfl, trivial⟩ [0] rfl rfl
    · refine J_exit ?_
      refine N_then_exit ?_
      exact N_break' g3 ⟨rfl, rfl, rfl, rfl, rfl, trivial⟩ [0] rfl rfl
  · refine N_then ?_
    refine J_seq ?_
    refine J_region ?_
    refine JL_q (wants_none rfl) rfl (ex_move rfl) ?_
    refine JL_q (wants_none rfl) rfl (ex_move rfl) ?_
    refine JL_q (wants_none rfl) rfl (ex_move rfl) ?_
    refine JL_bnd fun z14 hz15 => ?_
    refine JL_q (wants_none rfl) rfl (ex_slice_str Tryd.underlying9 rfl rfl rfl hz15) ?_
    refine JL_st (wants_none rfl) rfl (st_buildSlice (vs := [.string z14]) ([z14] : List ByteArray) Tryd.underlying43 ti_9 zi_9 rfl rfl rfl (fun w hh => ⟨(Rd.mk_str _ _ _), trivial⟩)) (fun b16 => ?_)
    refine JL_bnd fun z17 hz18 => ?_
    refine JL_st (wants_none rfl) rfl (st_append 1 Tryd.underlying43 ti_9 zi_9 rfl bi_9 rfl rfl rfl rfl (fun w hh => hh.src_ow 0 rfl) hz18) (fun v19 => ?_)
    refine JL_q (wants_none rfl) rfl (ex_assign rfl) ?_
    refine JL_nil ?_
    refine N_then ?_
    refine J_ret ?_
    exact N_ret1 rfl (rv_tmp rfl) (fun w hh => ⟨v19, rfl, hh.sel [1] rfl⟩)

set_option maxHeartbeats 40000000 in
theorem c_spec_l01Digit (A : Nat → Prop) (w : World) (hA : ∀ k, A k → k < w.heap.size) (p0 : (Ik .u8)) (r : Bool) (hr : F_spec_l01Digit p0 = some r) :
    Con Tryd.prog 51 [.int .u8 p0.val] A w (fun x_ : Unit => .bool r) (fun x_ => []) := by
  refine Con_of (v := fun (r : Bool) (x_ : Unit) => .bool r) (fs := fun r x_ => []) Tryd.func51 rfl Tryd.ntmps51 rfl (SH.start hA) rfl ?_ hr
  unfold F_spec_l01Digit
  refine J_seq ?_
  refine J_region ?_
  refine JL_q (wants_none rfl) rfl (ex_assign rfl) ?_
  refine JL_nil ?_
  refine N_then ?_
  refine J_seq ?_
  refine J_region ?_
  refine JL_q (wants_none rfl) rfl (ex_move rfl) ?_
  refine JL_q (wants_none rfl) rfl (ex_geq rfl rfl) ?_
  refine JL_q (wants_none rfl) rfl (ex_move rfl) ?_
  refine JL_cond (fun h1 => ?_) (fun h1 => ?_)
  · refine JL_q (wants_some rfl rfl rfl h1) rfl (ex_move rfl) ?_
    refine JL_q (wants_some rfl rfl rfl h1) rfl (ex_leq rfl rfl) ?_
    refine JL_q (wants_none rfl) rfl (ex_pick_true rfl h1 rfl) ?_
    refine JL_q (wants_none rfl) rfl (ex_assign rfl) ?_
    refine JL_nil ?_
    refine N_then ?_
    refine J_ret ?_
    exact N_ret1 rfl (rv_tmp rfl) (fun w hh => ⟨(), rfl, hh.sel [] rfl⟩)
  · refine JL_passed rfl rfl rfl h1 ?_
    refine JL_passed rfl rfl rfl h1 ?_
    refine JL_q (wants_none rfl) rfl (ex_pick_false rfl h1 rfl) ?_
    refine JL_q (wants_none rfl) rfl (ex_assign rfl) ?_
    refine JL_nil ?_
    refine N_then ?_
    refine J_ret ?_
    exact N_ret1 rfl (rv_tmp rfl) (fun w hh => ⟨(), rfl, hh.sel [] rfl⟩)

set_option maxHeartbeats 40000000 in
theorem c_spec_l01Number (A : Nat → Prop) (w : World) (hA : ∀ k, A k → k < w.heap.size) (p0 : ByteArray) (r : Int × Bool) (hr : F_spec_l01Number p0 = some r) :
    Con Tryd.prog 39 [.string p0] A w (fun x_ : Unit => .tuple #[.int .i64 r.1, .bool r.2]) (fun x_ => []) := by
  refine Con_of (v := fun (r : Int × Bool) (x_ : Unit) => .tuple #[.int .i64 r.1, .bool r.2]) (fs := fun r x_ => []) Tryd.func39 rfl Tryd.ntmps39 rfl (SH.start hA) rfl ?_ hr
  unfold F_spec_l01Number
  refine J_seq ?_
  refine J_region ?_
  refine JL_q (wants_none rfl) rfl (ex_assign rfl) ?_
  refine JL_q (wants_none rfl) rfl (ex_assign rfl) ?_
  refine JL_nil ?_
  refine N_then ?_
  refine J_seq ?_
  refine J_region ?_
  refine JL_q (wants_none rfl) rfl (ex_assign rfl) ?_
  refine JL_nil ?_
  refine N_then ?_
  refine J_seq ?_
  refine J_cut' (S' := Int) (G' := Unit) (fun s1 _ => [(0, .string p0), (4, .int .i64 s1)]) (fun s1 _ => []) ?_ (fun s1 g2 => ?_)
  · refine J_seq ?_
    refine J_region ?_
    refine JL_q (wants_none rfl) rfl (ex_move rfl) ?_
    refine JL_q (wants_none rfl) rfl (ex_len_str Tryd.underlying9 rfl) ?_
    refine JL_q (wants_none rfl) rfl (ex_gtr rfl rfl) ?_
    refine JL_q (wants_none rfl) rfl (ex_move rfl) ?_
    refine JL_cond (fun h3 => ?_) (fun h3 => ?_)
    · refine JL_q (wants_some rfl rfl rfl h3) rfl (ex_move rfl) ?_
      refine JL_bnd fun y4 hy5 => ?_
      refine JL_q (wants_some rfl rfl rfl h3) rfl (ex_index_str Tryd.underlying9 rfl rfl hy5) ?_
      refine JL_q (wants_some rfl rfl rfl h3) rfl (ex_eql rfl rfl) ?_
      refine JL_q (wants_none rfl) rfl (ex_pick_true rfl h3 rfl) ?_
      refine JL_nil ?_
      refine N_then ?_
      refine J_if rfl (fun h6 => ?_) (fun h6 => ?_)
      · refine J_region ?_
        refine JL_q (wants_none rfl) rfl (ex_assign rfl) ?_
        refine JL_nil ?_
        exact N_meet' () ⟨rfl, rfl, trivial⟩ [] rfl rfl
      · refine J_skip ?_
        exact N_meet' () ⟨rfl, rfl, trivial⟩ [] rfl rfl
    · refine JL_passed rfl rfl rfl h3 ?_
      refine JL_passed rfl rfl rfl h3 ?_
      refine JL_passed rfl rfl rfl h3 ?_
      refine JL_q (wants_none rfl) rfl (ex_pick_false rfl h3 rfl) ?_
      refine JL_nil ?_
      refine N_then ?_
      refine J_if_false rfl rfl ?_
      refine J_skip ?_
      exact N_meet' () ⟨rfl, rfl, trivial⟩ [] rfl rfl
  · refine N_then ?_
    refine J_seq ?_
    refine J_cut' (S' := Unit) (G' := Unit) (fun _ _ => [(0, .string p0), (4, .int .i64 s1)]) (fun _ _ => []) ?_ (fun s7 g8 => ?_)
    · refine J_seq ?_
      refine J_region ?_
      refine JL_q (wants_none rfl) rfl (ex_move rfl) ?_
      refine JL_q (wants_none rfl) rfl (ex_len_str Tryd.underlying9 rfl) ?_
      refine JL_q (wants_none rfl) rfl (ex_move rfl) ?_
      refine JL_q (wants_none rfl) rfl (ex_eql rfl rfl) ?_
      refine JL_q (wants_none rfl) rfl (ex_move rfl) ?_
      refine JL_cond (fun h9 => ?_) (fun h9 => ?_)
      · refine JL_passed rfl rfl rfl h9 ?_
        refine JL_passed rfl rfl rfl h9 ?_
        refine JL_passed rfl rfl rfl h9 ?_
        refine JL_passed rfl rfl rfl h9 ?_
        refine JL_passed rfl rfl rfl h9 ?_
        refine JL_q (wants_none rfl) rfl (ex_pick_true rfl h9 rfl) ?_
        refine JL_q (wants_none rfl) rfl (ex_move rfl) ?_
        refine JL_passed rfl rfl rfl rfl ?_
        refine JL_passed rfl rfl rfl rfl ?_
        refine JL_passed rfl rfl rfl rfl ?_
        refine JL_passed rfl rfl rfl rfl ?_
        refine JL_passed rfl rfl rfl rfl ?_
        refine JL_passed_undef rfl rfl rfl ?_
        refine JL_passed_undef rfl rfl rfl ?_
        refine JL_passed_undef rfl rfl rfl ?_
        refine JL_passed rfl rfl rfl rfl ?_
        refine JL_q (wants_none rfl) rfl (ex_pick_true rfl rfl rfl) ?_
        refine JL_nil ?_
        refine N_then ?_
        refine J_if_true rfl rfl ?_
        refine J_seq ?_
        refine J_region ?_
        refine JL_q (wants_none rfl) rfl (ex_assign rfl) ?_
        refine JL_q (wants_none rfl) rfl (ex_assign rfl) ?_
        refine JL_nil ?_
        refine N_then ?_
        refine J_ret ?_
        refine N_mid_ret ?_
        refine N_then_ret ?_
        exact N_ret2 rfl (rv_tmp rfl) (rv_tmp rfl) (fun w hh => ⟨(), rfl, hh.sel [] rfl⟩)
      · refine JL_q (wants_some rfl rfl rfl h9) rfl (ex_move rfl) ?_
        refine JL_q (wants_some rfl rfl rfl h9) rfl (ex_len_str Tryd.underlying9 rfl) ?_
        refine JL_q (wants_some rfl rfl rfl h9) rfl (ex_move rfl) ?_
        refine JL_q (wants_some rfl rfl rfl h9) rfl (ex_sub rfl rfl) ?_
        refine JL_q (wants_some rfl rfl rfl h9) rfl (ex_gtr rfl rfl) ?_
        refine JL_q (wants_none rfl) rfl (ex_pick_false rfl h9 rfl) ?_
        refine JL_q (wants_none rfl) rfl (ex_move rfl) ?_
        refine JL_cond (fun h10 => ?_) (fun h10 => ?_)
        · refine JL_passed rfl rfl rfl h10 ?_
          refine JL_passed rfl rfl rfl h10 ?_
          refine JL_passed rfl rfl rfl h10 ?_
          refine JL_passed rfl rfl rfl h10 ?_
          refine JL_passed rfl rfl rfl h10 ?_
          refine JL_passed_undef rfl rfl rfl ?_
          refine JL_passed_undef rfl rfl rfl ?_
          refine JL_passed_undef rfl rfl rfl ?_
          refine JL_passed rfl rfl rfl h10 ?_
          refine JL_q (wants_none rfl) rfl (ex_pick_true rfl h10 rfl) ?_
          refine JL_nil ?_
          refine N_then ?_
          refine J_if_true rfl rfl ?_
          refine J_seq ?_
          refine J_region ?_
          refine JL_q (wants_none rfl) rfl (ex_assign rfl) ?_
          refine JL_q (wants_none rfl) rfl (ex_assign rfl) ?_
          refine JL_nil ?_
          refine N_then ?_
          refine J_ret ?_
          refine N_mid_ret ?_
          refine N_then_ret ?_
          exact N_ret2 rfl (rv_tmp rfl) (rv_tmp rfl) (fun w hh => ⟨(), rfl, hh.sel [] rfl⟩)
        · refine JL_q (wants_some rfl rfl rfl h10) rfl (ex_move rfl) ?_
          refine JL_q (wants_some rfl rfl rfl h10) rfl (ex_move rfl) ?_
          refine JL_bnd fun y11 hy12 => ?_
          refine JL_q (wants_some rfl rfl rfl h10) rfl (ex_index_str Tryd.underlying9 rfl rfl hy12) ?_
          refine JL_q (wants_some rfl rfl rfl h10) rfl (ex_eql rfl rfl) ?_
          refine JL_q (wants_some rfl rfl rfl h10) rfl (ex_move rfl) ?_
          refine JL_cond (fun h13 => ?_) (fun h13 => ?_)
          · refine JL_q (wants_some rfl rfl rfl h13) rfl (ex_move rfl) ?_
            refine JL_q (wants_some rfl rfl rfl h13) rfl (ex_len_str Tryd.underlying9 rfl) ?_
            refine JL_q (wants_some rfl rfl rfl h13) rfl (ex_gtr rfl rfl) ?_
            refine JL_q (wants_some rfl rfl rfl h10) rfl (ex_pick_true rfl h13 rfl) ?_
            refine JL_q (wants_none rfl) rfl (ex_pick_false rfl h10 rfl) ?_
            refine JL_nil ?_
            refine N_then ?_
            refine J_if rfl (fun h14 => ?_) (fun h14 => ?_)
            · refine J_seq ?_
              refine J_region ?_
              refine JL_q (wants_none rfl) rfl (ex_assign rfl) ?_
              refine JL_q (wants_none rfl) rfl (ex_assign rfl) ?_
              refine JL_nil ?_
              refine N_then ?_
              refine J_ret ?_
              refine N_mid_ret ?_
              refine N_then_ret ?_
              exact N_ret2 rfl (rv_tmp rfl) (rv_tmp rfl) (fun w hh => ⟨(), rfl, hh.sel [] rfl⟩)
            · refine J_skip ?_
              exact N_meet' () ⟨rfl, rfl, trivial⟩ [] rfl rfl
          · refine JL_passed rfl rfl rfl h13 ?_
            refine JL_passed rfl rfl rfl h13 ?_
            refine JL_passed rfl rfl rfl h13 ?_
            refine JL_q (wants_some rfl rfl rfl h10) rfl (ex_pick_false rfl h13 rfl) ?_
            refine JL_q (wants_none rfl) rfl (ex_pick_false rfl h10 rfl) ?_
            refine JL_nil ?_
            refine N_then ?_
            refine J_if_false rfl rfl ?_
            refine J_skip ?_
            exact N_meet' () ⟨rfl, rfl, trivial⟩ [] rfl rfl
    · refine N_then ?_
      refine J_seq ?_
      refine J_region ?_
      refine JL_q (wants_none rfl) rfl (ex_assign rfl) ?_
      refine JL_nil ?_
      refine N_then ?_
      refine J_seq ?_
      refine J_seq ?_
      refine J_region ?_
      refine JL_q (wants_none rfl) rfl (ex_move rfl) ?_
      refine JL_q (wants_none rfl) rfl (ex_assign rfl) ?_
      refine JL_nil ?_
      refine N_then ?_
      refine J_loop' (S := Int × Int) (G := Unit) (F_spec_l01Number_L1 p0) (fun s15 _ => [(0, .string p0), (4, .int .i64 s1), (5, .int .i64 s15.1), (6, .int .i64 s15.2)]) (fun s15 _ => []) (0, s1) () ⟨rfl, rfl, rfl, rfl, trivial⟩ [] rfl rfl (fun s15 g16 => ?_) (fun s15 g16 => ?_)
      · unfold F_spec_l01Number_L1
        refine J_seq ?_
        refine J_seq ?_
        refine J_region ?_
        refine JL_q (wants_none rfl) rfl (ex_move rfl) ?_
        refine JL_q (wants_none rfl) rfl (ex_move rfl) ?_
        refine JL_q (wants_none rfl) rfl (ex_len_str Tryd.underlying9 rfl) ?_
        refine JL_q (wants_none rfl) rfl (ex_lss rfl rfl) ?_
        refine JL_nil ?_
        refine N_then ?_
        refine J_if rfl (fun h17 => ?_) (fun h17 => ?_)
        · refine J_skip ?_
          refine N_then ?_
          refine J_seq ?_
          refine J_block ?_
          refine J_seq ?_
          refine J_seq ?_
          refine J_region ?_
          refine JL_q (wants_none rfl) rfl (ex_move rfl) ?_
          refine JL_q (wants_none rfl) rfl (ex_move rfl) ?_
          refine JL_bnd fun y18 hy19 => ?_
          refine JL_q (wants_none rfl) rfl (ex_index_str Tryd.underlying9 rfl rfl hy19) ?_
          refine JL_bnd fun r20 hr21 => ?_
          refine JL_call (wants_none rfl) rfl Tryd.call51 rfl (Ca_of0 fun w hh => c_spec_l01Digit _ w (fun _ hk => hk.elim) _ _ hr21) (fun _ => ?_)
          refine JL_q (wants_none rfl) rfl (ex_not rfl) ?_
          refine JL_nil ?_
          refine N_then ?_
          refine J_if rfl (fun h22 => ?_) (fun h22 => ?_)
          · refine J_seq ?_
            refine J_region ?_
            refine JL_q (wants_none rfl) rfl (ex_assign rfl) ?_
            refine JL_q (wants_none rfl) rfl (ex_assign rfl) ?_
            refine JL_nil ?_
            refine N_then ?_
            refine J_ret ?_
            refine N_then_ret ?_
            refine N_block_ret ?_
            refine N_then_ret ?_
            refine N_round_ret ?_
            refine N_then_ret ?_
            exact N_ret2 rfl (rv_tmp rfl) (rv_tmp rfl) (fun w hh => ⟨(), rfl, hh.sel [] rfl⟩)
          · refine J_skip ?_
            refine N_then ?_
            refine J_region ?_
            refine JL_q (wants_none rfl) rfl (ex_move rfl) ?_
            refine JL_q (wants_none rfl) rfl (ex_mul rfl rfl) ?_
            refine JL_q (wants_none rfl) rfl (ex_move rfl) ?_
            refine JL_q (wants_none rfl) rfl (ex_move rfl) ?_
            refine JL_bnd fun y23 hy24 => ?_
            refine JL_q (wants_none rfl) rfl (ex_index_str Tryd.underlying9 rfl rfl hy24) ?_
            refine JL_q (wants_none rfl) rfl (ex_subk rfl rfl) ?_
            refine JL_q (wants_none rfl) rfl (ex_conv_i64 Tryd.underlying5 Tryd.underlying2 rfl) ?_
            refine JL_q (wants_none rfl) rfl (ex_add rfl rfl) ?_
            refine JL_q (wants_none rfl) rfl (ex_assign rfl) ?_
            refine JL_nil ?_
            refine N_block ?_
            refine N_then ?_
            refine J_region ?_
            refine JL_q (wants_none rfl) rfl (ex_move rfl) ?_
            refine JL_q (wants_none rfl) rfl (ex_add rfl rfl) ?_
            refine JL_q (wants_none rfl) rfl (ex_assign rfl) ?_
            refine JL_nil ?_
            exact N_next' () ⟨rfl, rfl, rfl, rfl, trivial⟩ [] rfl rfl
        · refine J_exit ?_
          refine N_then_exit ?_
          exact N_break' () ⟨rfl, rfl, rfl, rfl, trivial⟩ [] rfl rfl
      · refine N_then ?_
        refine J_seq ?_
        refine J_seq ?_
        refine J_region ?_
        refine JL_q (wants_none rfl) rfl (ex_move rfl) ?_
        refine JL_q (wants_none rfl) rfl (ex_eql rfl rfl) ?_
        refine JL_nil ?_
        refine N_then ?_
        refine J_if rfl (fun h25 => ?_) (fun h25 => ?_)
        · refine J_region ?_
          refine JL_q (wants_none rfl) rfl (ex_move rfl) ?_
          refine JL_q (wants_none rfl) rfl (ex_neg rfl) ?_
          refine JL_q (wants_none rfl) rfl (ex_assign rfl) ?_
          refine JL_nil ?_
          refine N_then ?_
          refine J_seq ?_
          refine J_region ?_
          refine JL_q (wants_none rfl) rfl (ex_move rfl) ?_
          refine JL_q (wants_none rfl) rfl (ex_assign rfl) ?_
          refine JL_q (wants_none rfl) rfl (ex_assign rfl) ?_
          refine JL_nil ?_
          refine N_then ?_
          refine J_ret ?_
          exact N_ret2 rfl (rv_tmp rfl) (rv_tmp rfl) (fun w hh => ⟨(), rfl, hh.sel [] rfl⟩)
        · refine J_skip ?_
          refine N_then ?_
          refine J_seq ?_
          refine J_region ?_
          refine JL_q (wants_none rfl) rfl (ex_move rfl) ?_
          refine JL_q (wants_none rfl) rfl (ex_assign rfl) ?_
          refine JL_q (wants_none rfl) rfl (ex_assign rfl) ?_
          refine JL_nil ?_
          refine N_then ?_
          refine J_ret ?_
          exact N_ret2 rfl (rv_tmp rfl) (rv_tmp rfl) (fun w hh => ⟨(), rfl, hh.sel [] rfl⟩)

set_option maxHeartbeats 40000000 in
theorem c_spec_l00In (A : Nat → Prop) (w : World) (hA : ∀ k, A k → k < w.heap.size) (p0 : Int) (p1 : Int) (p2 : Int) (r : Bool) (hr : F_spec_l00In p0 p1 p2 = some r) :
    Con Tryd.prog 65 [.int .i64 p0, .int .i64 p1, .int .i64 p2] A w (fun x_ : Unit => .bool r) (fun x_ => []) := by
  refine Con_of (v := fun (r : Bool) (x_ : Unit) => .bool r) (fs := fun r x_ => []) Tryd.func65 rfl Tryd.ntmps65 rfl (SH.start hA) rfl ?_ hr
  unfold F_spec_l00In
  refine J_seq ?_
  refine J_region ?_
  refine JL_q (wants_none rfl) rfl (ex_assign rfl) ?_
  refine JL_nil ?_
  refine N_then ?_
  refine J_seq ?_
  refine J_region ?_
  refine JL_q (wants_none rfl) rfl (ex_move rfl) ?_
  refine JL_q (wants_none rfl) rfl (ex_move rfl) ?_
  refine JL_q (wants_none rfl) rfl (ex_geq rfl rfl) ?_
  refine JL_q (wants_none rfl) rfl (ex_move rfl) ?_
  refine JL_cond (fun h1 => ?_) (fun h1 => ?_)
  · refine JL_q (wants_some rfl rfl rfl h1) rfl (ex_move rfl) ?_
    refine JL_q (wants_some rfl rfl rfl h1) rfl (ex_move rfl) ?_
    refine JL_q (wants_some rfl rfl rfl h1) rfl (ex_leq rfl rfl) ?_
    refine JL_q (wants_none rfl) rfl (ex_pick_true rfl h1 rfl) ?_
    refine JL_q (wants_none rfl) rfl (ex_assign rfl) ?_
    refine JL_nil ?_
    refine N_then ?_
    refine J_ret ?_
    exact N_ret1 rfl (rv_tmp rfl) (fun w hh => ⟨(), rfl, hh.sel [] rfl⟩)
  · refine JL_passed rfl rfl rfl h1 ?_
    refine JL_passed rfl rfl rfl h1 ?_
    refine JL_passed rfl rfl rfl h1 ?_
    refine JL_q (wants_none rfl) rfl (ex_pick_false rfl h1 rfl) ?_
    refine JL_q (wants_none rfl) rfl (ex_assign rfl) ?_
    refine JL_nil ?_
    refine N_then ?_
    refine J_ret ?_
    exact N_ret1 rfl (rv_tmp rfl) (fun w hh => ⟨(), rfl, hh.sel [] rfl⟩)

set_option maxHeartbeats 40000000 in
theorem c_spec_l33Color (A : Nat → Prop) (w : World) (hA : ∀ k, A k → k < w.heap.size) (p0 : Int) (r : Bool) (hr : F_spec_l33Color p0 = some r) :
    Con Tryd.prog 41 [.int .i64 p0] A w (fun x_ : Unit => .bool r) (fun x_ => []) := by
  refine Con_of (v := fun (r : Bool) (x_ : Unit) => .bool r) (fs := fun r x_ => []) Tryd.func41 rfl Tryd.ntmps41 rfl (SH.start hA) rfl ?_ hr
  unfold F_spec_l33Color
  refine J_seq ?_
  refine J_region ?_
  refine JL_q (wants_none rfl) rfl (ex_assign rfl) ?_
  refine JL_nil ?_
  refine N_then ?_
  refine J_seq ?_
  refine J_region ?_
  refine JL_q (wants_none rfl) rfl (ex_move rfl) ?_
  refine JL_bnd fun r1 hr2 => ?_
  refine JL_call (wants_none rfl) rfl Tryd.call65 rfl (Ca_of0 fun w hh => c_spec_l00In _ w (fun _ hk => hk.elim) _ _ _ _ hr2) (fun _ => ?_)
  refine JL_q (wants_none rfl) rfl (ex_assign rfl) ?_
  refine JL_nil ?_
  refine N_then ?_
  refine J_ret ?_
  exact N_ret1 rfl (rv_tmp rfl) (fun w hh => ⟨(), rfl, hh.sel [] rfl⟩)

set_option maxHeartbeats 40000000 in
theorem c_spec_l33Is (A : Nat → Prop) (w : World) (hA : ∀ k, A k → k < w.heap.size) (v0_ : Value) (p0 : (List GTile)) (hp0 : Rd A w v0_ p0) (r : Bool) (hr : F_spec_l33Is p0 = some r) :
    Con Tryd.prog 20 [v0_] A w (fun x_ : Unit => .bool r) (fun x_ => []) := by
  refine Con_of (v := fun (r : Bool) (x_ : Unit) => .bool r) (fs := fun r x_ => []) Tryd.func20 rfl Tryd.ntmps20 rfl ((SH.start hA).start_rd rfl hp0) rfl ?_ hr
  unfold F_spec_l33Is
  refine J_seq ?_
  refine J_region ?_
  refine JL_q (wants_none rfl) rfl (ex_assign rfl) ?_
  refine JL_nil ?_
  refine N_then ?_
  refine J_seq ?_
  refine J_seq ?_
  refine J_region ?_
  refine JL_q (wants_none rfl) rfl (ex_assign rfl) ?_
  refine JL_nil ?_
  refine N_then ?_
  refine J_loop' (S := Int) (G := Unit) (F_spec_l33Is_L1 p0) (fun s1 _ => [(0, v0_), (3, .int .i64 s1)]) (fun s1 _ => [.rd v0_ p0]) 0 () ⟨rfl, rfl, trivial⟩ [0] rfl rfl (fun s1 g2 => ?_) (fun s1 g2 => ?_)
  · unfold F_spec_l33Is_L1
    refine J_seq ?_
    refine J_seq ?_
    refine J_region ?_
    refine JL_q (wants_none rfl) rfl (ex_move rfl) ?_
    refine JL_q (wants_none rfl) rfl (ex_move rfl) ?_
    refine JL_q (wants_none rfl) rfl (ex_len_rd 0 Tryd.underlying25 rfl rfl) ?_
    refine JL_q (wants_none rfl) rfl (ex_lss rfl rfl) ?_
    refine JL_nil ?_
    refine N_then ?_
    refine J_if rfl (fun h3 => ?_) (fun h3 => ?_)
    · refine J_skip ?_
      refine N_then ?_
      refine J_seq ?_
      refine J_block ?_
      refine J_seq ?_
      refine J_region ?_
      refine JL_q (wants_none rfl) rfl (ex_move rfl) ?_
      refine JL_q (wants_none rfl) rfl (ex_move rfl) ?_
      refine JL_bnd fun y4 hy5 => ?_
      refine JL_st (wants_none rfl) rfl (st_index 0 Tryd.underlying25 ti_40 rfl rfl rfl hy5) (fun q6 => ?_)
      refine JL_st (wants_none rfl) rfl (st_load_pt_o 0 (GTile.opens _) ti_40 rfl rfl) (fun _ => ?_)
      refine JL_st (wants_none rfl) rfl (st_alloc zi_40 rfl) (fun b8 => ?_)
      refine JL_sk (wants_none rfl) (sk_store_bx' 0 ti_40 rfl rfl (fun w hh => (cv_aggs ⟨cv_int, cv_int, cv_int, cv_int, trivial⟩)) rfl rfl rfl rfl) ?_
      refine JL_nil ?_
      refine N_then ?_
      refine J_seq ?_
      refine J_cut' (S' := Unit) (G' := Unit) (fun _ _ => [(0, v0_), (3, .int .i64 s1), (4, .pointer (some ⟨b8, 0, none⟩))]) (fun _ _ => [.rd v0_ p0, .bx b8 40 [.int .i64 y4.Left, .int .i64 y4.Bottom, .int .i64 y4.Right, .int .i64 y4.Top]]) ?_ (fun s9 g10 => ?_)
      · refine J_seq ?_
        refine J_region ?_
        refine JL_q (wants_none rfl) rfl (ex_fieldAddr fi_40_0 rfl rfl) ?_
        refine JL_q (wants_none rfl) rfl (ex_load_bx 0 ti_2 rfl rfl rfl) ?_
        refine JL_bnd fun r11 hr12 => ?_
        refine JL_call (wants_none rfl) rfl Tryd.call41 rfl (Ca_of0 fun w hh => c_spec_l33Color _ w (fun _ hk => hk.elim) _ _ hr12) (fun _ => ?_)
        refine JL_q (wants_none rfl) rfl (ex_not rfl) ?_
        refine JL_q (wants_none rfl) rfl (ex_move rfl) ?_
        refine JL_cond (fun h13 => ?_) (fun h13 => ?_)
        · refine JL_passed rfl rfl rfl h13 ?_
          refine JL_passed rfl rfl rfl h13 ?_
          refine JL_passed rfl rfl rfl h13 ?_
          refine JL_passed rfl rfl rfl h13 ?_
          refine JL_q (wants_none rfl) rfl (ex_pick_true rfl h13 rfl) ?_
          refine JL_q (wants_none rfl) rfl (ex_move rfl) ?_
          refine JL_passed rfl rfl rfl rfl ?_
          refine JL_passed rfl rfl rfl rfl ?_
          refine JL_passed rfl rfl rfl rfl ?_
          refine JL_passed rfl rfl rfl rfl ?_
          refine JL_q (wants_none rfl) rfl (ex_pick_true rfl rfl rfl) ?_
          refine JL_q (wants_none rfl) rfl (ex_move rfl) ?_
          refine JL_passed rfl rfl rfl rfl ?_
          refine JL_passed rfl rfl rfl rfl ?_
          refine JL_passed rfl rfl rfl rfl ?_
          refine JL_passed rfl rfl rfl rfl ?_
          refine JL_q (wants_none rfl) rfl (ex_pick_true rfl rfl rfl) ?_
          refine JL_nil ?_
          refine N_then ?_
          refine J_if_true rfl rfl ?_
          refine J_seq ?_
          refine J_region ?_
          refine JL_q (wants_none rfl) rfl (ex_assign rfl) ?_
          refine JL_nil ?_
          refine N_then ?_
          refine J_ret ?_
          refine N_mid_ret ?_
          refine N_then_ret ?_
          refine N_block_ret ?_
          refine N_then_ret ?_
          refine N_round_ret ?_
          refine N_then_ret ?_
          exact N_ret1 rfl (rv_tmp rfl) (fun w hh => ⟨(), rfl, hh.sel [] rfl⟩)
        · refine JL_q (wants_some rfl rfl rfl h13) rfl (ex_fieldAddr fi_40_1 rfl rfl) ?_
          refine JL_q (wants_some rfl rfl rfl h13) rfl (ex_load_bx 0 ti_2 rfl rfl rfl) ?_
          refine JL_bnd fun r14 hr15 => ?_
          refine JL_call (wants_some rfl rfl rfl h13) rfl Tryd.call41 rfl (Ca_of0 fun w hh => c_spec_l33Color _ w (fun _ hk => hk.elim) _ _ hr15) (fun _ => ?_)
          refine JL_q (wants_some rfl rfl rfl h13) rfl (ex_not rfl) ?_
          refine JL_q (wants_none rfl) rfl (ex_pick_false rfl h13 rfl) ?_
          refine JL_q (wants_none rfl) rfl (ex_move rfl) ?_
          refine JL_cond (fun h16 => ?_) (fun h16 => ?_)
          · refine JL_passed rfl rfl rfl h16 ?_
            refine JL_passed rfl rfl rfl h16 ?_
            refine JL_passed rfl rfl rfl h16 ?_
            refine JL_passed rfl rfl rfl h16 ?_
            refine JL_q (wants_none rfl) rfl (ex_pick_true rfl h16 rfl) ?_
            refine JL_q (wants_none rfl) rfl (ex_move rfl) ?_
            refine JL_passed rfl rfl rfl rfl ?_
            refine JL_passed rfl rfl rfl rfl ?_
            refine JL_passed rfl rfl rfl rfl ?_
            refine JL_passed rfl rfl rfl rfl ?_
            refine JL_q (wants_none rfl) rfl (ex_pick_true rfl rfl rfl) ?_
            refine JL_nil ?_
            refine N_then ?_
            refine J_if_true rfl rfl ?_
            refine J_seq ?_
            refine J_region ?_
            refine JL_q (wants_none rfl) rfl (ex_assign rfl) ?_
            refine JL_nil ?_
            refine N_then ?_
            refine J_ret ?_
            refine N_mid_ret ?_
            refine N_then_ret ?_
            refine N_block_ret ?_
            refine N_then_ret ?_
            refine N_round_ret ?_
            refine N_then_ret ?_
            exact N_ret1 rfl (rv_tmp rfl) (fun w hh => ⟨(), rfl, hh.sel [] rfl⟩)
          · refine JL_q (wants_some rfl rfl rfl h16) rfl (ex_fieldAddr fi_40_2 rfl rfl) ?_
            refine JL_q (wants_some rfl rfl rfl h16) rfl (ex_load_bx 0 ti_2 rfl rfl rfl) ?_
            refine JL_bnd fun r17 hr18 => ?_
            refine JL_call (wants_some rfl rfl rfl h16) rfl Tryd.call41 rfl (Ca_of0 fun w hh => c_spec_l33Color _ w (fun _ hk => hk.elim) _ _ hr18) (fun _ => ?_)
            refine JL_q (wants_some rfl rfl rfl h16) rfl (ex_not rfl) ?_
            refine JL_q (wants_none rfl) rfl (ex_pick_false rfl h16 rfl) ?_
            refine JL_q (wants_none rfl) rfl (ex_move rfl) ?_
            refine JL_cond (fun h19 => ?_) (fun h19 => ?_)
            · refine JL_passed rfl rfl rfl h19 ?_
              refine JL_passed rfl rfl rfl h19 ?_
              refine JL_passed rfl rfl rfl h19 ?_
              refine JL_passed rfl rfl rfl h19 ?_
              refine JL_q (wants_none rfl) rfl (ex_pick_true rfl h19 rfl) ?_
              refine JL_nil ?_
              refine N_then ?_
              refine J_if_true rfl rfl ?_
              refine J_seq ?_
              refine J_region ?_
              refine JL_q (wants_none rfl) rfl (ex_assign rfl) ?_
              refine JL_nil ?_
              refine N_then ?_
              refine J_ret ?_
              refine N_mid_ret ?_
              refine N_then_ret ?_
              refine N_block_ret ?_
              refine N_then_ret ?_
              refine N_round_ret ?_
              refine N_then_ret ?_
              exact N_ret1 rfl (rv_tmp rfl) (fun w hh => ⟨(), rfl, hh.sel [] rfl⟩)
            · refine JL_q (wants_some rfl rfl rfl h19) rfl (ex_fieldAddr fi_40_3 rfl rfl) ?_
              refine JL_q (wants_some rfl rfl rfl h19) rfl (ex_load_bx 0 ti_2 rfl rfl rfl) ?_
              refine JL_bnd fun r20 hr21 => ?_
              refine JL_call (wants_some rfl rfl rfl h19) rfl Tryd.call41 rfl (Ca_of0 fun w hh => c_spec_l33Color _ w (fun _ hk => hk.elim) _ _ hr21) (fun _ => ?_)
              refine JL_q (wants_some rfl rfl rfl h19) rfl (ex_not rfl) ?_
              refine JL_q (wants_none rfl) rfl (ex_pick_false rfl h19 rfl) ?_
              refine JL_nil ?_
              refine N_then ?_
              refine J_if rfl (fun h22 => ?_) (fun h22 => ?_)
              · refine J_seq ?_
                refine J_region ?_
                refine JL_q (wants_none rfl) rfl (ex_assign rfl) ?_
                refine JL_nil ?_
                refine N_then ?_
                refine J_ret ?_
                refine N_mid_ret ?_
                refine N_then_ret ?_
                refine N_block_ret ?_
                refine N_then_ret ?_
                refine N_round_ret ?_
                refine N_then_ret ?_
                exact N_ret1 rfl (rv_tmp rfl) (fun w hh => ⟨(), rfl, hh.sel [] rfl⟩)
              · refine J_skip ?_
                exact N_meet' () ⟨rfl, rfl, rfl, trivial⟩ [2, 0] rfl rfl
      · refine N_then ?_
        refine J_seq ?_
        refine J_region ?_
        refine JL_q (wants_none rfl) rfl (ex_assign rfl) ?_
        refine JL_nil ?_
        refine N_then ?_
        refine J_loop' (S := Int) (G := Unit) (F_spec_l33Is_L2 p0 s1 y4) (fun s23 _ => [(0, v0_), (3, .int .i64 s1), (4, .pointer (some ⟨b8, 0, none⟩)), (5, .int .i64 s23)]) (fun s23 _ => [.rd v0_ p0, .bx b8 40 [.int .i64 y4.Left, .int .i64 y4.Bottom, .int .i64 y4.Right, .int .i64 y4.Top]]) 0 () ⟨rfl, rfl, rfl, rfl, trivial⟩ [0, 1] rfl rfl (fun s23 g24 => ?_) (fun s23 g24 => ?_)
        · unfold F_spec_l33Is_L2
          refine J_seq ?_
          refine J_seq ?_
          refine J_region ?_
          refine JL_q (wants_none rfl) rfl (ex_move rfl) ?_
          refine JL_q (wants_none rfl) rfl (ex_move rfl) ?_
          refine JL_q (wants_none rfl) rfl (ex_lss rfl rfl) ?_
          refine JL_q (wants_none rfl) rfl (ex_move rfl) ?_
          refine JL_cond (fun h25 => ?_) (fun h25 => ?_)
          · refine JL_q (wants_some rfl rfl rfl h25) rfl (ex_move rfl) ?_
            refine JL_q (wants_some rfl rfl rfl h25) rfl (ex_lss rfl rfl) ?_
            refine JL_q (wants_none rfl) rfl (ex_pick_true rfl h25 rfl) ?_
            refine JL_nil ?_
            refine N_then ?_
            refine J_if rfl (fun h26 => ?_) (fun h26 => ?_)
            · refine J_skip ?_
              refine N_then ?_
              refine J_seq ?_
              refine J_block ?_
              refine J_seq ?_
              refine J_draw [] (by kernel_rfl) ?_
              refine JP_take (i := 0) [0, 1] [] rfl (by kernel_rfl) (by kernel_rfl) (by kernel_rfl) rfl rfl (wants_none rfl) rfl (ex_move rfl) ?_
              refine JP_take (i := 1) [0, 1] [] rfl (by kernel_rfl) (by kernel_rfl) (by kernel_rfl) rfl rfl (wants_none rfl) rfl (ex_move rfl) ?_
              refine JP_bnd fun y27 hy28 => ?_
              refine JP_sq (i := 2) [] rfl (by kernel_rfl) (by kernel_rfl) (by kernel_rfl) rfl (wants_none rfl) rfl (sq_index 0 Tryd.underlying25 ti_40 rfl rfl rfl hy28) (fun q29 => ?_)
              refine JP_sq (i := 3) [] rfl (by kernel_rfl) (by kernel_rfl) (by kernel_rfl) rfl (wants_none rfl) rfl (sq_load_pt_o 0 (GTile.opens _) ti_40 rfl rfl) (fun _ => ?_)
              refine JP_take (i := 4) [0, 1, 2] [] rfl (by kernel_rfl) (by kernel_rfl) (by kernel_rfl) rfl rfl (wants_none rfl) rfl (ex_load_bx_agg 2 ti_40 rfl rfl rfl rfl) ?_
              refine JP_take (i := 5) [0, 1, 2] [] rfl (by kernel_rfl) (by kernel_rfl) (by kernel_rfl) rfl rfl (wants_none rfl) rfl (ex_eql_seq_40 rfl rfl) ?_
              refine JP_go [] [] rfl rfl rfl (fun _ _ _ => ?_)
              refine JD_done (by kernel_rfl) ?_
              refine N_then ?_
              refine J_if rfl (fun h31 => ?_) (fun h31 => ?_)
              · refine J_seq ?_
                refine J_region ?_
                refine JL_q (wants_none rfl) rfl (ex_assign rfl) ?_
                refine JL_nil ?_
                refine N_then ?_
                refine J_ret ?_
                refine N_block_ret ?_
                refine N_then_ret ?_
                refine N_round_ret ?_
                refine N_block_ret ?_
                refine N_then_ret ?_
                refine N_round_ret ?_
                refine N_then_ret ?_
                exact N_ret1 rfl (rv_tmp rfl) (fun w hh => ⟨(), rfl, hh.sel [] rfl⟩)
              · refine J_skip ?_
                refine N_block ?_
                refine N_then ?_
                refine J_region ?_
                refine JL_q (wants_none rfl) rfl (ex_move rfl) ?_
                refine JL_q (wants_none rfl) rfl (ex_add rfl rfl) ?_
                refine JL_q (wants_none rfl) rfl (ex_assign rfl) ?_
                refine JL_nil ?_
                exact N_next' () ⟨rfl, rfl, rfl, rfl, trivial⟩ [1, 2] rfl rfl
            · refine J_exit ?_
              refine N_then_exit ?_
              exact N_break' () ⟨rfl, rfl, rfl, rfl, trivial⟩ [0, 1] rfl rfl
          · refine JL_passed rfl rfl rfl h25 ?_
            refine JL_passed rfl rfl rfl h25 ?_
            refine JL_q (wants_none rfl) rfl (ex_pick_false rfl h25 rfl) ?_
            refine JL_nil ?_
            refine N_then ?_
            refine J_if_false rfl rfl ?_
            refine J_exit ?_
            refine N_then_exit ?_
            exact N_break' () ⟨rfl, rfl, rfl, rfl, trivial⟩ [0, 1] rfl rfl
        · refine N_block ?_
          refine N_then ?_
          refine J_region ?_
          refine JL_q (wants_none rfl) rfl (ex_move rfl) ?_
          refine JL_q (wants_none rfl) rfl (ex_add rfl rfl) ?_
          refine JL_q (wants_none rfl) rfl (ex_assign rfl) ?_
          refine JL_nil ?_
          exact N_next' () ⟨rfl, rfl, trivial⟩ [0] rfl rfl
    · refine J_exit ?_
      refine N_then_exit ?_
      exact N_break' () ⟨rfl, rfl, trivial⟩ [0] rfl rfl
  · refine N_then ?_
    refine J_seq ?_
    refine J_region ?_
    refine JL_q (wants_none rfl) rfl (ex_move rfl) ?_
    refine JL_q (wants_none rfl) rfl (ex_len_rd 0 Tryd.underlying25 rfl rfl) ?_
    refine JL_q (wants_none rfl) rfl (ex_gtr rfl rfl) ?_
    refine JL_q (wants_none rfl) rfl (ex_move rfl) ?_
    refine JL_cond (fun h32 => ?_) (fun h32 => ?_)
    · refine JL_q (wants_some rfl rfl rfl h32) rfl (ex_move rfl) ?_
      refine JL_q (wants_some rfl rfl rfl h32) rfl (ex_len_rd 0 Tryd.underlying25 rfl rfl) ?_
      refine JL_q (wants_some rfl rfl rfl h32) rfl (ex_leq rfl rfl) ?_
      refine JL_q (wants_none rfl) rfl (ex_pick_true rfl h32 rfl) ?_
      refine JL_q (wants_none rfl) rfl (ex_assign rfl) ?_
      refine JL_nil ?_
      refine N_then ?_
      refine J_ret ?_
      exact N_ret1 rfl (rv_tmp rfl) (fun w hh => ⟨(), rfl, hh.sel [] rfl⟩)
    · refine JL_passed rfl rfl rfl h32 ?_
      refine JL_passed rfl rfl rfl h32 ?_
      refine JL_passed rfl rfl rfl h32 ?_
      refine JL_q (wants_none rfl) rfl (ex_pick_false rfl h32 rfl) ?_
      refine JL_q (wants_none rfl) rfl (ex_assign rfl) ?_
      refine JL_nil ?_
      refine N_then ?_
      refine J_ret ?_
      exact N_ret1 rfl (rv_tmp rfl) (fun w hh => ⟨(), rfl, hh.sel [] rfl⟩)

set_option maxHeartbeats 40000000 in
theorem c_spec_ReadTiles (A : Nat → Prop) (w : World) (hA : ∀ k, A k → k < w.heap.size) (p0 : ByteArray) (r : (List GTile) × Bool) (hr : F_spec_ReadTiles p0 = some r) :
    Con Tryd.prog 16 [.string p0] A w (fun x_ : Value => .tuple #[x_, .bool r.2]) (fun x_ => [.ow 40 x_ r.1]) := by
  refine Con_of (v := fun (r : (List GTile) × Bool) (x_ : Value) => .tuple #[x_, .bool r.2]) (fs := fun r x_ => [.ow 40 x_ r.1]) Tryd.func16 rfl Tryd.ntmps16 rfl (SH.start hA) rfl ?_ hr
  unfold F_spec_ReadTiles
  refine J_seq ?_
  refine J_region ?_
  refine JL_q (wants_none rfl) rfl (ex_assign rfl) ?_
  refine JL_q (wants_none rfl) rfl (ex_assign rfl) ?_
  refine JL_nil ?_
  refine N_then ?_
  refine J_seq ?_
  refine J_region ?_
  refine JL_q (wants_none rfl) rfl (ex_move rfl) ?_
  refine JL_bnd fun r1 hr2 => ?_
  refine JL_call (wants_none rfl) rfl Tryd.call27 rfl (Ca_self (fun _ => rfl) fun w hh => c_spec_l01Split _ w (fun _ hk => hk.elim) _ _ _ hr2) (fun x3 => ?_)
  refine JL_q (wants_none rfl) rfl (ex_assign rfl) ?_
  refine JL_nil ?_
  refine N_then ?_
  refine J_seq ?_
  refine J_seq ?_
  refine J_region ?_
  refine JL_q (wants_none rfl) rfl (ex_move rfl) ?_
  refine JL_q (wants_none rfl) rfl (ex_len_ow 0 Tryd.underlying43 rfl rfl) ?_
  refine JL_q (wants_none rfl) rfl (ex_gtr rfl rfl) ?_
  refine JL_nil ?_
  refine N_then ?_
  refine J_if rfl (fun h4 => ?_) (fun h4 => ?_)
  · refine J_seq ?_
    refine J_region ?_
    refine JL_q (wants_none rfl) rfl (ex_assign rfl) ?_
    refine JL_q (wants_none rfl) rfl (ex_assign rfl) ?_
    refine JL_nil ?_
    refine N_then ?_
    refine J_ret ?_
    refine N_then_ret ?_
    refine N_ctx (fun w hh => SH.ow_nil (α := GTile) 40 hh) ?_
    exact N_ret2 rfl (rv_tmp rfl) (rv_tmp rfl) (fun w hh => ⟨(.slice none 0 0 : Value), rfl, hh.sel [0] rfl⟩)
  · refine J_skip ?_
    refine N_then ?_
    refine J_seq ?_
    refine J_region ?_
    refine JL_st (wants_none rfl) rfl (st_buildSlice (vs := []) ([] : List GTile) Tryd.underlying25 ti_40 zi_40 rfl rfl rfl (fun w hh => trivial)) (fun b5 => ?_)
    refine JL_q (wants_none rfl) rfl (ex_assign rfl) ?_
    refine JL_nil ?_
    refine N_then ?_
    refine J_seq ?_
    refine J_seq ?_
    refine J_region ?_
    refine JL_q (wants_none rfl) rfl (ex_assign rfl) ?_
    refine JL_nil ?_
    refine N_then ?_
    refine J_loop' (S := (List GTile) × Int) (G := Value) (F_spec_ReadTiles_L1 r1) (fun s6 g7 => [(4, x3), (5, g7), (6, .int .i64 s6.2)]) (fun s6 g7 => [.ow 9 x3 r1, .ow 40 g7 s6.1]) (([] : List GTile), 0) (.slice (some ⟨b5, 0, none⟩) 0 0) ⟨rfl, rfl, rfl, trivial⟩ [1, 0] rfl rfl (fun s6 g7 => ?_) (fun s6 g7 => ?_)
    · unfold F_spec_ReadTiles_L1
      refine J_seq ?_
      refine J_seq ?_
      refine J_region ?_
      refine JL_q (wants_none rfl) rfl (ex_move rfl) ?_
      refine JL_q (wants_none rfl) rfl (ex_move rfl) ?_
      refine JL_q (wants_none rfl) rfl (ex_len_ow 0 Tryd.underlying43 rfl rfl) ?_
      refine JL_q (wants_none rfl) rfl (ex_lss rfl rfl) ?_
      refine JL_nil ?_
      refine N_then ?_
      refine J_if rfl (fun h8 => ?_) (fun h8 => ?_)
      · refine J_skip ?_
        refine N_then ?_
        refine J_seq ?_
        refine J_block ?_
        refine J_seq ?_
        refine J_region ?_
        refine JL_q (wants_none rfl) rfl (ex_move rfl) ?_
        refine JL_q (wants_none rfl) rfl (ex_move rfl) ?_
        refine JL_bnd fun y9 hy10 => ?_
        refine JL_ow_open (v := x3) 0 rfl hy10 ?_; rintro b11 cap12 rfl
        refine JL_q (wants_none rfl) rfl (ex_index_ow 0 Tryd.underlying43 ti_9 rfl rfl rfl hy10) ?_
        refine JL_st (wants_none rfl) rfl (st_load_ow_o 0 (opens_str _) ti_9 rfl rfl hy10) (fun _ => ?_)
        refine JL_bnd fun r14 hr15 => ?_
        refine JL_call (wants_none rfl) rfl Tryd.call27 rfl (Ca_self (fun _ => rfl) fun w hh => c_spec_l01Split _ w (fun _ hk => hk.elim) _ _ _ hr15) (fun x16 => ?_)
        refine JL_q (wants_none rfl) rfl (ex_assign rfl) ?_
        refine JL_nil ?_
        refine N_then ?_
        refine J_seq ?_
        refine J_seq ?_
        refine J_region ?_
        refine JL_q (wants_none rfl) rfl (ex_move rfl) ?_
        refine JL_q (wants_none rfl) rfl (ex_len_ow 0 Tryd.underlying43 rfl rfl) ?_
        refine JL_q (wants_none rfl) rfl (ex_neq rfl rfl) ?_
        refine JL_nil ?_
        refine N_then ?_
        refine J_if rfl (fun h17 => ?_) (fun h17 => ?_)
        · refine J_seq ?_
          refine J_region ?_
          refine JL_q (wants_none rfl) rfl (ex_assign rfl) ?_
          refine JL_q (wants_none rfl) rfl (ex_assign rfl) ?_
          refine JL_nil ?_
          refine N_then ?_
          refine J_ret ?_
          refine N_then_ret ?_
          refine N_block_ret ?_
          refine N_then_ret ?_
          refine N_round_ret ?_
          refine N_then_ret ?_
          refine N_ctx (fun w hh => SH.ow_nil (α := GTile) 40 hh) ?_
          exact N_ret2 rfl (rv_tmp rfl) (rv_tmp rfl) (fun w hh => ⟨(.slice none 0 0 : Value), rfl, hh.sel [0] rfl⟩)
        · refine J_skip ?_
          refine N_then ?_
          refine J_seq ?_
          refine J_region ?_
          refine JL_st (wants_none rfl) rfl (st_buildSlice (vs := []) ([] : List Int) Tryd.underlying45 ti_2 zi_2 rfl rfl rfl (fun w hh => trivial)) (fun b18 => ?_)
          refine JL_q (wants_none rfl) rfl (ex_assign rfl) ?_
          refine JL_nil ?_
          refine N_then ?_
          refine J_seq ?_
          refine J_seq ?_
          refine J_region ?_
          refine JL_q (wants_none rfl) rfl (ex_assign rfl) ?_
          refine JL_nil ?_
          refine N_then ?_
          refine J_loop' (S := (List Int) × Int) (G := Value) (F_spec_ReadTiles_L2 r14) (fun s19 g20 => [(4, (.slice (some ⟨b11, 0, none⟩) r1.length cap12)), (5, g7), (6, .int .i64 s6.2), (7, x16), (8, g20), (9, .int .i64 s19.2)]) (fun s19 g20 => [.ow 9 (.slice (some ⟨b11, 0, none⟩) r1.length cap12) r1, .ow 40 g7 s6.1, .ow 9 x16 r14, .ow 2 g20 s19.1]) (([] : List Int), 0) (.slice (some ⟨b18, 0, none⟩) 0 0) ⟨rfl, rfl, rfl, rfl, rfl, rfl, trivial⟩ [2, 3, 1, 0] rfl rfl (fun s19 g20 => ?_) (fun s19 g20 => ?_)
          · unfold F_spec_ReadTiles_L2
            refine J_seq ?_
            refine J_seq ?_
            refine J_region ?_
            refine JL_q (wants_none rfl) rfl (ex_move rfl) ?_
            refine JL_q (wants_none rfl) rfl (ex_lss rfl rfl) ?_
            refine JL_nil ?_
            refine N_then ?_
            refine J_if rfl (fun h21 => ?_) (fun h21 => ?_)
            · refine J_skip ?_
              refine N_then ?_
              refine J_seq ?_
              refine J_block ?_
              refine J_seq ?_
              refine J_region ?_
              refine JL_q (wants_none rfl) rfl (ex_move rfl) ?_
              refine JL_q (wants_none rfl) rfl (ex_move rfl) ?_
              refine JL_bnd fun y22 hy23 => ?_
              refine JL_ow_open (v := x16) 2 rfl hy23 ?_; rintro b24 cap25 rfl
              refine JL_q (wants_none rfl) rfl (ex_index_ow 2 Tryd.underlying43 ti_9 rfl rfl rfl hy23) ?_
              refine JL_st (wants_none rfl) rfl (st_load_ow_o 2 (opens_str _) ti_9 rfl rfl hy23) (fun _ => ?_)
              refine JL_bnd fun r27 hr28 => ?_
              refine JL_call (wants_none rfl) rfl Tryd.call39 rfl (Ca_of0 fun w hh => c_spec_l01Number _ w (fun _ hk => hk.elim) _ _ hr28) (fun _ => ?_)
              refine JL_q (wants_none rfl) rfl (ex_move rfl) ?_
              refine JL_q (wants_none rfl) rfl (ex_extract rfl rfl) ?_
              refine JL_q (wants_none rfl) rfl (ex_extract rfl rfl) ?_
              refine JL_q (wants_none rfl) rfl (ex_assign rfl) ?_
              refine JL_q (wants_none rfl) rfl (ex_assign rfl) ?_
              refine JL_nil ?_
              refine N_then ?_
              refine J_seq ?_
              refine J_seq ?_
              refine J_region ?_
              refine JL_q (wants_none rfl) rfl (ex_move rfl) ?_
              refine JL_q (wants_none rfl) rfl (ex_not rfl) ?_
              refine JL_nil ?_
              refine N_then ?_
              refine J_if rfl (fun h29 => ?_) (fun h29 => ?_)
              · refine J_seq ?_
                refine J_region ?_
                refine JL_q (wants_none rfl) rfl (ex_assign rfl) ?_
                refine JL_q (wants_none rfl) rfl (ex_assign rfl) ?_
                refine JL_nil ?_
                refine N_then ?_
                refine J_ret ?_
                refine N_then_ret ?_
                refine N_block_ret ?_
                refine N_then_ret ?_
                refine N_round_ret ?_
                refine N_then_ret ?_
                refine N_block_ret ?_
                refine N_then_ret ?_
                refine N_round_ret ?_
                refine N_then_ret ?_
                refine N_ctx (fun w hh => SH.ow_nil (α := GTile) 40 hh) ?_
                exact N_ret2 rfl (rv_tmp rfl) (rv_tmp rfl) (fun w hh => ⟨(.slice none 0 0 : Value), rfl, hh.sel [0] rfl⟩)
              · refine J_skip ?_
                refine N_then ?_
                refine J_region ?_
                refine JL_q (wants_none rfl) rfl (ex_move rfl) ?_
                refine JL_q (wants_none rfl) rfl (ex_move rfl) ?_
                refine JL_st (wants_none rfl) rfl (st_buildSlice (vs := [.int .i64 r27.1]) ([r27.1] : List Int) Tryd.underlying45 ti_2 zi_2 rfl rfl rfl (fun w hh => ⟨(Rd.mk_int _ _ _), trivial⟩)) (fun b30 => ?_)
                refine JL_bnd fun z31 hz32 => ?_
                refine JL_st (wants_none rfl) rfl (st_append 4 Tryd.underlying45 ti_2 zi_2 rfl bi_2 rfl rfl rfl rfl (fun w hh => hh.src_ow 0 rfl) hz32) (fun v33 => ?_)
                refine JL_q (wants_none rfl) rfl (ex_assign rfl) ?_
                refine JL_nil ?_
                refine N_block ?_
                refine N_then ?_
                refine J_region ?_
                refine JL_q (wants_none rfl) rfl (ex_move rfl) ?_
                refine JL_q (wants_none rfl) rfl (ex_add rfl rfl) ?_
                refine JL_q (wants_none rfl) rfl (ex_assign rfl) ?_
                refine JL_nil ?_
                exact N_next' v33 ⟨rfl, rfl, rfl, rfl, rfl, rfl, trivial⟩ [1, 2, 3, 4] rfl rfl
            · refine J_exit ?_
              refine N_then_exit ?_
              exact N_break' g20 ⟨rfl, rfl, rfl, rfl, rfl, rfl, trivial⟩ [0, 1, 2, 3] rfl rfl
          · refine N_then ?_
            refine J_ctx (fun w hh => hh.tokf 3 rfl rfl) ?_
            refine J_draw [2] (by kernel_rfl) ?_
            refine JP_take (i := 0) [0, 1, 3, 4] [2] rfl (by kernel_rfl) (by kernel_rfl) (by kernel_rfl) rfl rfl (wants_none rfl) rfl (ex_move rfl) ?_
            refine JP_take (i := 1) [0, 1, 3, 4] [2] rfl (by kernel_rfl) (by kernel_rfl) (by kernel_rfl) rfl rfl (wants_none rfl) rfl (ex_move rfl) ?_
            refine JP_bnd fun y34 hy35 => ?_
            refine JP_sq (i := 2) [2] rfl (by kernel_rfl) (by kernel_rfl) (by kernel_rfl) rfl (wants_none rfl) rfl (sq_index 4 Tryd.underlying45 ti_2 rfl rfl rfl hy35) (fun q36 => ?_)
            refine JP_sq (i := 3) [3] rfl (by kernel_rfl) (by kernel_rfl) (by kernel_rfl) rfl (wants_none rfl) rfl (sq_load_pt_o 0 (opens_int _) ti_2 rfl rfl) (fun _ => ?_)
            refine JP_take (i := 4) [0, 1, 2, 4, 5] [3] rfl (by kernel_rfl) (by kernel_rfl) (by kernel_rfl) rfl rfl (wants_none rfl) rfl (ex_move rfl) ?_
            refine JP_bnd fun y38 hy39 => ?_
            refine JP_sq (i := 5) [3] rfl (by kernel_rfl) (by kernel_rfl) (by kernel_rfl) rfl (wants_none rfl) rfl (sq_index 5 Tryd.underlying45 ti_2 rfl rfl rfl hy39) (fun q40 => ?_)
            refine JP_sq (i := 6) [4] rfl (by kernel_rfl) (by kernel_rfl) (by kernel_rfl) rfl (wants_none rfl) rfl (sq_load_pt_o 0 (opens_int _) ti_2 rfl rfl) (fun _ => ?_)
            refine JP_take (i := 7) [0, 1, 2, 3, 5, 6] [4] rfl (by kernel_rfl) (by kernel_rfl) (by kernel_rfl) rfl rfl (wants_none rfl) rfl (ex_move rfl) ?_
            refine JP_bnd fun y42 hy43 => ?_
            refine JP_sq (i := 8) [4] rfl (by kernel_rfl) (by kernel_rfl) (by kernel_rfl) rfl (wants_none rfl) rfl (sq_index 6 Tryd.underlying45 ti_2 rfl rfl rfl hy43) (fun q44 => ?_)
            refine JP_sq (i := 9) [5] rfl (by kernel_rfl) (by kernel_rfl) (by kernel_rfl) rfl (wants_none rfl) rfl (sq_load_pt_o 0 (opens_int _) ti_2 rfl rfl) (fun _ => ?_)
            refine JP_take (i := 10) [0, 1, 2, 3, 4, 6, 7] [5] rfl (by kernel_rfl) (by kernel_rfl) (by kernel_rfl) rfl rfl (wants_none rfl) rfl (ex_move rfl) ?_
            refine JP_bnd fun y46 hy47 => ?_
            refine JP_sq (i := 11) [5] rfl (by kernel_rfl) (by kernel_rfl) (by kernel_rfl) rfl (wants_none rfl) rfl (sq_index 7 Tryd.underlying45 ti_2 rfl rfl rfl hy47) (fun q48 => ?_)
            refine JP_sq (i := 12) [6] rfl (by kernel_rfl) (by kernel_rfl) (by kernel_rfl) rfl (wants_none rfl) rfl (sq_load_pt_o 0 (opens_int _) ti_2 rfl rfl) (fun _ => ?_)
            refine JP_take (i := 13) [0, 1, 2, 3, 4, 5, 7, 8] [6] rfl (by kernel_rfl) (by kernel_rfl) (by kernel_rfl) rfl rfl (wants_none rfl) rfl (ex_build si_40 rfl (.cons fi_40_0 rfl rfl (.cons fi_40_1 rfl rfl (.cons fi_40_2 rfl rfl (.cons fi_40_3 rfl rfl .nil)))) (fun w hh => ⟨cv_int, cv_int, cv_int, cv_int, trivial⟩)) ?_
            refine JP_go [0, 1, 2, 3, 4, 5, 7, 8] [6] rfl rfl rfl (fun w51 h1_52 hp50 => ?_)
            refine JD_one (i := 14) (by kernel_rfl) ?_
            refine JO_st rfl (wants_none rfl) rfl (st_buildSlice (vs := [.agg #[.int .i64 y34, .int .i64 y38, .int .i64 y42, .int .i64 y46]]) ([(⟨y34, y38, y42, y46⟩ : GTile)] : List GTile) Tryd.underlying25 ti_40 zi_40 rfl rfl rfl (fun w hh => ⟨(GTile.rdmk (Rd.mk_int _ _ _) (Rd.mk_int _ _ _) (Rd.mk_int _ _ _) (Rd.mk_int _ _ _)), trivial⟩)) (fun _ hk => nomatch hk) (fun b53 => ?_)
            refine JD_bnd fun z54 hz55 => ?_
            refine JD_one (i := 15) (by kernel_rfl) ?_
            refine JO_st rfl (wants_none rfl) rfl (st_append 7 Tryd.underlying25 ti_40 zi_40 rfl bi_40 rfl rfl rfl rfl (fun w hh => hh.src_ow 0 rfl) hz55) (sub_ow 0 rfl) (fun v56 => ?_)
            refine JD_take (i := 16) hp50 rfl (by kernel_rfl) (by kernel_rfl) (by kernel_rfl) (wants_none rfl) rfl (ex_assign rfl) ?_
            refine JD_done (by kernel_rfl) ?_
            refine N_block ?_
            refine N_then ?_
            refine J_region ?_
            refine JL_q (wants_none rfl) rfl (ex_move rfl) ?_
            refine JL_q (wants_none rfl) rfl (ex_add rfl rfl) ?_
            refine JL_q (wants_none rfl) rfl (ex_assign rfl) ?_
            refine JL_nil ?_
            exact N_next' v56 ⟨rfl, rfl, rfl, trivial⟩ [6, 7] rfl rfl
      · refine J_exit ?_
        refine N_then_exit ?_
        exact N_break' g7 ⟨rfl, rfl, rfl, trivial⟩ [0, 1] rfl rfl
    · refine N_then ?_
      refine J_seq ?_
      refine J_seq ?_
      refine J_region ?_
      refine JL_q (wants_none rfl) rfl (ex_move rfl) ?_
      refine JL_bnd fun r57 hr58 => ?_
      refine JL_call (wants_none rfl) rfl Tryd.call20 rfl (Ca_of0 fun w hh => c_spec_l33Is _ w (fun _ hk => hk.elim) _ _ (hh.ow0 1 rfl) _ hr58) (fun _ => ?_)
      refine JL_q (wants_none rfl) rfl (ex_not rfl) ?_
      refine JL_nil ?_
      refine N_then ?_
      refine J_if rfl (fun h59 => ?_) (fun h59 => ?_)
      · refine J_seq ?_
        refine J_region ?_
        refine JL_q (wants_none rfl) rfl (ex_assign rfl) ?_
        refine JL_q (wants_none rfl) rfl (ex_assign rfl) ?_
        refine JL_nil ?_
        refine N_then ?_
        refine J_ret ?_
        refine N_then_ret ?_
        refine N_ctx (fun w hh => SH.ow_nil (α := GTile) 40 hh) ?_
        exact N_ret2 rfl (rv_tmp rfl) (rv_tmp rfl) (fun w hh => ⟨(.slice none 0 0 : Value), rfl, hh.sel [0] rfl⟩)
      · refine J_skip ?_
        refine N_then ?_
        refine J_seq ?_
        refine J_region ?_
        refine JL_q (wants_none rfl) rfl (ex_move rfl) ?_
        refine JL_q (wants_none rfl) rfl (ex_assign rfl) ?_
        refine JL_q (wants_none rfl) rfl (ex_assign rfl) ?_
        refine JL_nil ?_
        refine N_then ?_
        refine J_ret ?_
        exact N_ret2 rfl (rv_tmp rfl) (rv_tmp rfl) (fun w hh => ⟨g7, rfl, hh.sel [1] rfl⟩)

set_option maxHeartbeats 40000000 in
theorem c_internal_bytealg_Cutover (A : Nat → Prop) (w : World) (hA : ∀ k, A k → k < w.heap.size) (p0 : Int) (r : Int) (hr : F_internal_bytealg_Cutover p0 = some r) :
    Con Tryd.prog 87 [.int .i64 p0] A w (fun x_ : Unit => .int .i64 r) (fun x_ => []) := by
  refine Con_of (v := fun (r : Int) (x_ : Unit) => .int .i64 r) (fs := fun r x_ => []) Tryd.func87 rfl Tryd.ntmps87 rfl (SH.start hA) rfl ?_ hr
  unfold F_internal_bytealg_Cutover
  refine J_seq ?_
  refine J_region ?_
  refine JL_q (wants_none rfl) rfl (ex_assign rfl) ?_
  refine JL_nil ?_
  refine N_then ?_
  refine J_seq ?_
  refine J_region ?_
  refine JL_q (wants_none rfl) rfl (ex_move rfl) ?_
  refine JL_q (wants_none rfl) rfl (ex_add rfl rfl) ?_
  refine JL_q (wants_none rfl) rfl (ex_quo rfl rfl (by decide)) ?_
  refine JL_q (wants_none rfl) rfl (ex_assign rfl) ?_
  refine JL_nil ?_
  refine N_then ?_
  refine J_ret ?_
  exact N_ret1 rfl (rv_tmp rfl) (fun w hh => ⟨(), rfl, hh.sel [] rfl⟩)

set_option maxHeartbeats 40000000 in
theorem c_internal_bytealg_hashStr_string (A : Nat → Prop) (w : World) (hA : ∀ k, A k → k < w.heap.size) (p0 : ByteArray) (r : (Ik .u32) × (Ik .u32)) (hr : F_internal_bytealg_hashStr_string p0 = some r) :
    Con Tryd.prog 101 [.string p0] A w (fun x_ : Unit => .tuple #[.int .u32 r.1.val, .int .u32 r.2.val]) (fun x_ => []) := by
  refine Con_of (v := fun (r : (Ik .u32) × (Ik .u32)) (x_ : Unit) => .tuple #[.int .u32 r.1.val, .int .u32 r.2.val]) (fs := fun r x_ => []) Tryd.func101 rfl Tryd.ntmps101 rfl (SH.start hA) rfl ?_ hr
  unfold F_internal_bytealg_hashStr_string
  refine J_seq ?_
  refine J_region ?_
  refine JL_q (wants_none rfl) rfl (ex_assign rfl) ?_
  refine JL_q (wants_none rfl) rfl (ex_assign rfl) ?_
  refine JL_nil ?_
  refine N_then ?_
  refine J_seq ?_
  refine J_region ?_
  refine JL_q (wants_none rfl) rfl (ex_assign rfl) ?_
  refine JL_nil ?_
  refine N_then ?_
  refine J_seq ?_
  refine J_seq ?_
  refine J_region ?_
  refine JL_q (wants_none rfl) rfl (ex_assign rfl) ?_
  refine JL_nil ?_
  refine N_then ?_
  refine J_loop' (S := (Ik .u32) × Int) (G := Unit) (F_internal_bytealg_hashStr_string_L1 p0) (fun s1 _ => [(0, .string p0), (4, .int .u32 s1.1.val), (5, .int .i64 s1.2)]) (fun s1 _ => []) ((⟨0⟩ : Ik .u32), 0) () ⟨rfl, rfl, rfl, trivial⟩ [] rfl rfl (fun s1 g2 => ?_) (fun s1 g2 => ?_)
  · unfold F_internal_bytealg_hashStr_string_L1
    refine J_seq ?_
    refine J_seq ?_
    refine J_region ?_
    refine JL_q (wants_none rfl) rfl (ex_move rfl) ?_
    refine JL_q (wants_none rfl) rfl (ex_move rfl) ?_
    refine JL_q (wants_none rfl) rfl (ex_len_str Tryd.underlying9 rfl) ?_
    refine JL_q (wants_none rfl) rfl (ex_lss rfl rfl) ?_
    refine JL_nil ?_
    refine N_then ?_
    refine J_if rfl (fun h3 => ?_) (fun h3 => ?_)
    · refine J_skip ?_
      refine N_then ?_
      refine J_seq ?_
      refine J_block ?_
      refine J_region ?_
      refine JL_q (wants_none rfl) rfl (ex_move rfl) ?_
      refine JL_q (wants_none rfl) rfl (ex_mulk rfl rfl) ?_
      refine JL_q (wants_none rfl) rfl (ex_move rfl) ?_
      refine JL_q (wants_none rfl) rfl (ex_move rfl) ?_
      refine JL_bnd fun y4 hy5 => ?_
      refine JL_q (wants_none rfl) rfl (ex_index_str Tryd.underlying9 rfl rfl hy5) ?_
      refine JL_q (wants_none rfl) rfl (ex_conv_ik Tryd.underlying5 Tryd.underlying118 rfl) ?_
      refine JL_q (wants_none rfl) rfl (ex_addk rfl rfl) ?_
      refine JL_q (wants_none rfl) rfl (ex_assign rfl) ?_
      refine JL_nil ?_
      refine N_block ?_
      refine N_then ?_
      refine J_region ?_
      refine JL_q (wants_none rfl) rfl (ex_move rfl) ?_
      refine JL_q (wants_none rfl) rfl (ex_add rfl rfl) ?_
      refine JL_q (wants_none rfl) rfl (ex_assign rfl) ?_
      refine JL_nil ?_
      exact N_next' () ⟨rfl, rfl, rfl, trivial⟩ [] rfl rfl
    · refine J_exit ?_
      refine N_then_exit ?_
      exact N_break' () ⟨rfl, rfl, rfl, trivial⟩ [] rfl rfl
  · refine N_then ?_
    refine J_seq ?_
    refine J_region ?_
    refine JL_q (wants_none rfl) rfl (ex_assign rfl) ?_
    refine JL_q (wants_none rfl) rfl (ex_assign rfl) ?_
    refine JL_nil ?_
    refine N_then ?_
    refine J_seq ?_
    refine J_seq ?_
    refine J_region ?_
    refine JL_q (wants_none rfl) rfl (ex_move rfl) ?_
    refine JL_q (wants_none rfl) rfl (ex_len_str Tryd.underlying9 rfl) ?_
    refine JL_q (wants_none rfl) rfl (ex_assign rfl) ?_
    refine JL_nil ?_
    refine N_then ?_
    refine J_loop' (S := (Ik .u32) × (Ik .u32) × Int) (G := Unit) (F_internal_bytealg_hashStr_string_L2) (fun s6 _ => [(4, .int .u32 s1.1.val), (6, .int .u32 s6.1.val), (7, .int .u32 s6.2.1.val), (8, .int .i64 s6.2.2)]) (fun s6 _ => []) ((⟨1⟩ : Ik .u32), (⟨16777619⟩ : Ik .u32), (p0.size : Int)) () ⟨rfl, rfl, rfl, rfl, trivial⟩ [] rfl rfl (fun s6 g7 => ?_) (fun s6 g7 => ?_)
    · unfold F_internal_bytealg_hashStr_string_L2
      refine J_seq ?_
      refine J_seq ?_
      refine J_region ?_
      refine JL_q (wants_none rfl) rfl (ex_move rfl) ?_
      refine JL_q (wants_none rfl) rfl (ex_gtr rfl rfl) ?_
      refine JL_nil ?_
      refine N_then ?_
      refine J_if rfl (fun h8 => ?_) (fun h8 => ?_)
      · refine J_skip ?_
        refine N_then ?_
        refine J_seq ?_
        refine J_block ?_
        refine J_seq ?_
        refine J_seq ?_
        refine J_region ?_
        refine JL_q (wants_none rfl) rfl (ex_move rfl) ?_
        refine JL_q (wants_none rfl) rfl (ex_and rfl rfl) ?_
        refine JL_q (wants_none rfl) rfl (ex_neq rfl rfl) ?_
        refine JL_nil ?_
        refine N_then ?_
        refine J_if rfl (fun h9 => ?_) (fun h9 => ?_)
        · refine J_region ?_
          refine JL_q (wants_none rfl) rfl (ex_move rfl) ?_
          refine JL_q (wants_none rfl) rfl (ex_move rfl) ?_
          refine JL_q (wants_none rfl) rfl (ex_mulk rfl rfl) ?_
          refine JL_q (wants_none rfl) rfl (ex_assign rfl) ?_
          refine JL_nil ?_
          refine N_then ?_
          refine J_region ?_
          refine JL_q (wants_none rfl) rfl (ex_move rfl) ?_
          refine JL_q (wants_none rfl) rfl (ex_move rfl) ?_
          refine JL_q (wants_none rfl) rfl (ex_mulk rfl rfl) ?_
          refine JL_q (wants_none rfl) rfl (ex_assign rfl) ?_
          refine JL_nil ?_
          refine N_block ?_
          refine N_then ?_
          refine J_region ?_
          refine JL_q (wants_none rfl) rfl (ex_move rfl) ?_
          refine JL_q (wants_none rfl) rfl (ex_shr rfl rfl (by decide)) ?_
          refine JL_q (wants_none rfl) rfl (ex_assign rfl) ?_
          refine JL_nil ?_
          exact N_next' () ⟨rfl, rfl, rfl, rfl, trivial⟩ [] rfl rfl
        · refine J_skip ?_
          refine N_then ?_
          refine J_region ?_
          refine JL_q (wants_none rfl) rfl (ex_move rfl) ?_
          refine JL_q (wants_none rfl) rfl (ex_move rfl) ?_
          refine JL_q (wants_none rfl) rfl (ex_mulk rfl rfl) ?_
          refine JL_q (wants_none rfl) rfl (ex_assign rfl) ?_
          refine JL_nil ?_
          refine N_block ?_
          refine N_then ?_
          refine J_region ?_
          refine JL_q (wants_none rfl) rfl (ex_move rfl) ?_
          refine JL_q (wants_none rfl) rfl (ex_shr rfl rfl (by decide)) ?_
          refine JL_q (wants_none rfl) rfl (ex_assign rfl) ?_
          refine JL_nil ?_
          exact N_next' () ⟨rfl, rfl, rfl, rfl, trivial⟩ [] rfl rfl
      · refine J_exit ?_
        refine N_then_exit ?_
        exact N_break' () ⟨rfl, rfl, rfl, rfl, trivial⟩ [] rfl rfl
    · refine N_then ?_
      refine J_seq ?_
      refine J_region ?_
      refine JL_q (wants_none rfl) rfl (ex_move rfl) ?_
      refine JL_q (wants_none rfl) rfl (ex_move rfl) ?_
      refine JL_q (wants_none rfl) rfl (ex_assign rfl) ?_
      refine JL_q (wants_none rfl) rfl (ex_assign rfl) ?_
      refine JL_nil ?_
      refine N_then ?_
      refine J_ret ?_
      exact N_ret2 rfl (rv_tmp rfl) (rv_tmp rfl) (fun w hh => ⟨(), rfl, hh.sel [] rfl⟩)

set_option maxHeartbeats 40000000 in
theorem c_internal_bytealg_IndexRabinKarp_string (A : Nat → Prop) (w : World) (hA : ∀ k, A k → k < w.heap.size) (p0 : ByteArray) (p1 : ByteArray) (r : Int) (hr : F_internal_bytealg_IndexRabinKarp_string p0 p1 = some r) :
    Con Tryd.prog 88 [.string p0, .string p1] A w (fun x_ : Unit => .int .i64 r) (fun x_ => []) := by
  refine Con_of (v := fun (r : Int) (x_ : Unit) => .int .i64 r) (fs := fun r x_ => []) Tryd.func88 rfl Tryd.ntmps88 rfl (SH.start hA) rfl ?_ hr
  unfold F_internal_bytealg_IndexRabinKarp_string
  refine J_seq ?_
  refine J_region ?_
  refine JL_q (wants_none rfl) rfl (ex_assign rfl) ?_
  refine JL_nil ?_
  refine N_then ?_
  refine J_seq ?_
  refine J_region ?_
  refine JL_q (wants_none rfl) rfl (ex_move rfl) ?_
  refine JL_bnd fun r1 hr2 => ?_
  refine JL_call (wants_none rfl) rfl Tryd.call101 rfl (Ca_of0 fun w hh => c_internal_bytealg_hashStr_string _ w (fun _ hk => hk.elim) _ _ hr2) (fun _ => ?_)
  refine JL_q (wants_none rfl) rfl (ex_move rfl) ?_
  refine JL_q (wants_none rfl) rfl (ex_extract rfl rfl) ?_
  refine JL_q (wants_none rfl) rfl (ex_extract rfl rfl) ?_
  refine JL_q (wants_none rfl) rfl (ex_assign rfl) ?_
  refine JL_q (wants_none rfl) rfl (ex_assign rfl) ?_
  refine JL_nil ?_
  refine N_then ?_
  refine J_seq ?_
  refine J_region ?_
  refine JL_q (wants_none rfl) rfl (ex_move rfl) ?_
  refine JL_q (wants_none rfl) rfl (ex_len_str Tryd.underlying9 rfl) ?_
  refine JL_q (wants_none rfl) rfl (ex_assign rfl) ?_
  refine JL_nil ?_
  refine N_then ?_
  refine J_seq ?_
  refine J_region ?_
  refine JL_q (wants_none rfl) rfl (ex_assign rfl) ?_
  refine JL_nil ?_
  refine N_then ?_
  refine J_seq ?_
  refine J_seq ?_
  refine J_region ?_
  refine JL_q (wants_none rfl) rfl (ex_assign rfl) ?_
  refine JL_nil ?_
  refine N_then ?_
  refine J_loop' (S := (Ik .u32) × Int) (G := Unit) (F_internal_bytealg_IndexRabinKarp_string_L1 p0 p1) (fun s3 _ => [(0, .string p0), (1, .string p1), (5, .int .u32 r1.1.val), (6, .int .u32 r1.2.val), (7, .int .i64 (p1.size : Int)), (8, .int .u32 s3.1.val), (9, .int .i64 s3.2)]) (fun s3 _ => []) ((⟨0⟩ : Ik .u32), 0) () ⟨rfl, rfl, rfl, rfl, rfl, rfl, rfl, trivial⟩ [] rfl rfl (fun s3 g4 => ?_) (fun s3 g4 => ?_)
  · unfold F_internal_bytealg_IndexRabinKarp_string_L1
    refine J_seq ?_
    refine J_seq ?_
    refine J_region ?_
    refine JL_q (wants_none rfl) rfl (ex_move rfl) ?_
    refine JL_q (wants_none rfl) rfl (ex_move rfl) ?_
    refine JL_q (wants_none rfl) rfl (ex_lss rfl rfl) ?_
    refine JL_nil ?_
    refine N_then ?_
    refine J_if rfl (fun h5 => ?_) (fun h5 => ?_)
    · refine J_skip ?_
      refine N_then ?_
      refine J_seq ?_
      refine J_block ?_
      refine J_region ?_
      refine JL_q (wants_none rfl) rfl (ex_move rfl) ?_
      refine JL_q (wants_none rfl) rfl (ex_mulk rfl rfl) ?_
      refine JL_q (wants_none rfl) rfl (ex_move rfl) ?_
      refine JL_q (wants_none rfl) rfl (ex_move rfl) ?_
      refine JL_bnd fun y6 hy7 => ?_
      refine JL_q (wants_none rfl) rfl (ex_index_str Tryd.underlying9 rfl rfl hy7) ?_
      refine JL_q (wants_none rfl) rfl (ex_conv_ik Tryd.underlying5 Tryd.underlying118 rfl) ?_
      refine JL_q (wants_none rfl) rfl (ex_addk rfl rfl) ?_
      refine JL_q (wants_none rfl) rfl (ex_assign rfl) ?_
      refine JL_nil ?_
      refine N_block ?_
      refine N_then ?_
      refine J_region ?_
      refine JL_q (wants_none rfl) rfl (ex_move rfl) ?_
      refine JL_q (wants_none rfl) rfl (ex_add rfl rfl) ?_
      refine JL_q (wants_none rfl) rfl (ex_assign rfl) ?_
      refine JL_nil ?_
      exact N_next' () ⟨rfl, rfl, rfl, rfl, rfl, rfl, rfl, trivial⟩ [] rfl rfl
    · refine J_exit ?_
      refine N_then_exit ?_
      exact N_break' () ⟨rfl, rfl, rfl, rfl, rfl, rfl, rfl, trivial⟩ [] rfl rfl
  · refine N_then ?_
    refine J_seq ?_
    refine J_cut' (S' := Unit) (G' := Unit) (fun _ _ => [(0, .string p0), (1, .string p1), (5, .int .u32 r1.1.val), (6, .int .u32 r1.2.val), (7, .int .i64 (p1.size : Int)), (8, .int .u32 s3.1.val)]) (fun _ _ => []) ?_ (fun s8 g9 => ?_)
    · refine J_seq ?_
      refine J_region ?_
      refine JL_q (wants_none rfl) rfl (ex_move rfl) ?_
      refine JL_q (wants_none rfl) rfl (ex_move rfl) ?_
      refine JL_q (wants_none rfl) rfl (ex_eql rfl rfl) ?_
      refine JL_q (wants_none rfl) rfl (ex_move rfl) ?_
      refine JL_cond (fun h10 => ?_) (fun h10 => ?_)
      · refine JL_q (wants_some rfl rfl rfl h10) rfl (ex_move rfl) ?_
        refine JL_q (wants_some rfl rfl rfl h10) rfl (ex_move rfl) ?_
        refine JL_bnd fun z11 hz12 => ?_
        refine JL_q (wants_some rfl rfl rfl h10) rfl (ex_slice_str Tryd.underlying9 rfl rfl rfl hz12) ?_
        refine JL_q (wants_some rfl rfl rfl h10) rfl (ex_move rfl) ?_
        refine JL_q (wants_some rfl rfl rfl h10) rfl (ex_eql_str rfl rfl) ?_
        refine JL_q (wants_none rfl) rfl (ex_pick_true rfl h10 rfl) ?_
        refine JL_nil ?_
        refine N_then ?_
        refine J_if rfl (fun h13 => ?_) (fun h13 => ?_)
        · refine J_seq ?_
          refine J_region ?_
          refine JL_q (wants_none rfl) rfl (ex_assign rfl) ?_
          refine JL_nil ?_
          refine N_then ?_
          refine J_ret ?_
          refine N_mid_ret ?_
          refine N_then_ret ?_
          exact N_ret1 rfl (rv_tmp rfl) (fun w hh => ⟨(), rfl, hh.sel [] rfl⟩)
        · refine J_skip ?_
          exact N_meet' () ⟨rfl, rfl, rfl, rfl, rfl, rfl, trivial⟩ [] rfl rfl
      · refine JL_passed rfl rfl rfl h10 ?_
        refine JL_passed rfl rfl rfl h10 ?_
        refine JL_passed rfl rfl rfl h10 ?_
        refine JL_passed rfl rfl rfl h10 ?_
        refine JL_passed rfl rfl rfl h10 ?_
        refine JL_q (wants_none rfl) rfl (ex_pick_false rfl h10 rfl) ?_
        refine JL_nil ?_
        refine N_then ?_
        refine J_if_false rfl rfl ?_
        refine J_skip ?_
        exact N_meet' () ⟨rfl, rfl, rfl, rfl, rfl, rfl, trivial⟩ [] rfl rfl
    · refine N_then ?_
      refine J_seq ?_
      refine J_seq ?_
      refine J_region ?_
      refine JL_q (wants_none rfl) rfl (ex_move rfl) ?_
      refine JL_q (wants_none rfl) rfl (ex_assign rfl) ?_
      refine JL_nil ?_
      refine N_then ?_
      refine J_loop' (S := (Ik .u32) × Int) (G := Unit) (F_internal_bytealg_IndexRabinKarp_string_L2 p0 p1 r1) (fun s14 _ => [(0, .string p0), (1, .string p1), (5, .int .u32 r1.1.val), (6, .int .u32 r1.2.val), (7, .int .i64 (p1.size : Int)), (8, .int .u32 s14.1.val), (10, .int .i64 s14.2)]) (fun s14 _ => []) (s3.1, (p1.size : Int)) () ⟨rfl, rfl, rfl, rfl, rfl, rfl, rfl, trivial⟩ [] rfl rfl (fun s14 g15 => ?_) (fun s14 g15 => ?_)
      · unfold F_internal_bytealg_IndexRabinKarp_string_L2
        refine J_seq ?_
        refine J_seq ?_
        refine J_region ?_
        refine JL_q (wants_none rfl) rfl (ex_move rfl) ?_
        refine JL_q (wants_none rfl) rfl (ex_move rfl) ?_
        refine JL_q (wants_none rfl) rfl (ex_len_str Tryd.underlying9 rfl) ?_
        refine JL_q (wants_none rfl) rfl (ex_lss rfl rfl) ?_
        refine JL_nil ?_
        refine N_then ?_
        refine J_if rfl (fun h16 => ?_) (fun h16 => ?_)
        · refine J_skip ?_
          refine N_then ?_
          refine J_block ?_
          refine J_seq ?_
          refine J_region ?_
          refine JL_q (wants_none rfl) rfl (ex_move rfl) ?_
          refine JL_q (wants_none rfl) rfl (ex_mulk rfl rfl) ?_
          refine JL_q (wants_none rfl) rfl (ex_assign rfl) ?_
          refine JL_nil ?_
          refine N_then ?_
          refine J_seq ?_
          refine J_region ?_
          refine JL_q (wants_none rfl) rfl (ex_move rfl) ?_
          refine JL_q (wants_none rfl) rfl (ex_move rfl) ?_
          refine JL_q (wants_none rfl) rfl (ex_move rfl) ?_
          refine JL_bnd fun y17 hy18 => ?_
          refine JL_q (wants_none rfl) rfl (ex_index_str Tryd.underlying9 rfl rfl hy18) ?_
          refine JL_q (wants_none rfl) rfl (ex_conv_ik Tryd.underlying5 Tryd.underlying118 rfl) ?_
          refine JL_q (wants_none rfl) rfl (ex_addk rfl rfl) ?_
          refine JL_q (wants_none rfl) rfl (ex_assign rfl) ?_
          refine JL_nil ?_
          refine N_then ?_
          refine J_seq ?_
          refine J_region ?_
          refine JL_q (wants_none rfl) rfl (ex_move rfl) ?_
          refine JL_q (wants_none rfl) rfl (ex_move rfl) ?_
          refine JL_q (wants_none rfl) rfl (ex_move rfl) ?_
          refine JL_q (wants_none rfl) rfl (ex_move rfl) ?_
          refine JL_q (wants_none rfl) rfl (ex_move rfl) ?_
          refine JL_q (wants_none rfl) rfl (ex_sub rfl rfl) ?_
          refine JL_bnd fun y19 hy20 => ?_
          refine JL_q (wants_none rfl) rfl (ex_index_str Tryd.underlying9 rfl rfl hy20) ?_
          refine JL_q (wants_none rfl) rfl (ex_conv_ik Tryd.underlying5 Tryd.underlying118 rfl) ?_
          refine JL_q (wants_none rfl) rfl (ex_mulk rfl rfl) ?_
          refine JL_q (wants_none rfl) rfl (ex_subk rfl rfl) ?_
          refine JL_q (wants_none rfl) rfl (ex_assign rfl) ?_
          refine JL_nil ?_
          refine N_then ?_
          refine J_seq ?_
          refine J_region ?_
          refine JL_q (wants_none rfl) rfl (ex_move rfl) ?_
          refine JL_q (wants_none rfl) rfl (ex_add rfl rfl) ?_
          refine JL_q (wants_none rfl) rfl (ex_assign rfl) ?_
          refine JL_nil ?_
          refine N_then ?_
          refine J_seq ?_
          refine J_region ?_
          refine JL_q (wants_none rfl) rfl (ex_move rfl) ?_
          refine JL_q (wants_none rfl) rfl (ex_move rfl) ?_
          refine JL_q (wants_none rfl) rfl (ex_eql rfl rfl) ?_
          refine JL_q (wants_none rfl) rfl (ex_move rfl) ?_
          refine JL_cond (fun h21 => ?_) (fun h21 => ?_)
          · refine JL_q (wants_some rfl rfl rfl h21) rfl (ex_move rfl) ?_
            refine JL_q (wants_some rfl rfl rfl h21) rfl (ex_move rfl) ?_
            refine JL_q (wants_some rfl rfl rfl h21) rfl (ex_move rfl) ?_
            refine JL_q (wants_some rfl rfl rfl h21) rfl (ex_sub rfl rfl) ?_
            refine JL_q (wants_some rfl rfl rfl h21) rfl (ex_move rfl) ?_
            refine JL_bnd fun z22 hz23 => ?_
            refine JL_q (wants_some rfl rfl rfl h21) rfl (ex_slice_str Tryd.underlying9 rfl rfl rfl hz23) ?_
            refine JL_q (wants_some rfl rfl rfl h21) rfl (ex_move rfl) ?_
            refine JL_q (wants_some rfl rfl rfl h21) rfl (ex_eql_str rfl rfl) ?_
            refine JL_q (wants_none rfl) rfl (ex_pick_true rfl h21 rfl) ?_
            refine JL_nil ?_
            refine N_then ?_
            refine J_if rfl (fun h24 => ?_) (fun h24 => ?_)
            · refine J_seq ?_
              refine J_region ?_
              refine JL_q (wants_none rfl) rfl (ex_move rfl) ?_
              refine JL_q (wants_none rfl) rfl (ex_move rfl) ?_
              refine JL_q (wants_none rfl) rfl (ex_sub rfl rfl) ?_
              refine JL_q (wants_none rfl) rfl (ex_assign rfl) ?_
              refine JL_nil ?_
              refine N_then ?_
              refine J_ret ?_
              refine N_block_ret ?_
              refine N_round_ret ?_
              refine N_then_ret ?_
              exact N_ret1 rfl (rv_tmp rfl) (fun w hh => ⟨(), rfl, hh.sel [] rfl⟩)
            · refine J_skip ?_
              refine N_block ?_
              exact N_next' () ⟨rfl, rfl, rfl, rfl, rfl, rfl, rfl, trivial⟩ [] rfl rfl
          · refine JL_passed rfl rfl rfl h21 ?_
            refine JL_passed rfl rfl rfl h21 ?_
            refine JL_passed rfl rfl rfl h21 ?_
            refine JL_passed rfl rfl rfl h21 ?_
            refine JL_passed rfl rfl rfl h21 ?_
            refine JL_passed rfl rfl rfl h21 ?_
            refine JL_passed rfl rfl rfl h21 ?_
            refine JL_passed rfl rfl rfl h21 ?_
            refine JL_q (wants_none rfl) rfl (ex_pick_false rfl h21 rfl) ?_
            refine JL_nil ?_
            refine N_then ?_
            refine J_if_false rfl rfl ?_
            refine J_skip ?_
            refine N_block ?_
            exact N_next' () ⟨rfl, rfl, rfl, rfl, rfl, rfl, rfl, trivial⟩ [] rfl rfl
        · refine J_exit ?_
          refine N_then_exit ?_
          exact N_break' () ⟨rfl, rfl, rfl, rfl, rfl, rfl, rfl, trivial⟩ [] rfl rfl
      · refine N_then ?_
        refine J_seq ?_
        refine J_region ?_
        refine JL_q (wants_none rfl) rfl (ex_assign rfl) ?_
        refine JL_nil ?_
        refine N_then ?_
        refine J_ret ?_
        exact N_ret1 rfl (rv_tmp rfl) (fun w hh => ⟨(), rfl, hh.sel [] rfl⟩)

theorem c_strings_Split (A : Nat → Prop) (w : World) (hA : ∀ k, A k → k < w.heap.size) (hT_ : Rdt Tryd.prog w) (p0 p1 : ByteArray) (r : List ByteArray) (hr : splitG p0 p1 = some r) :
    Con Tryd.prog 31 [.string p0, .string p1] A w (fun x : Value => x) (fun x => [.ow 9 x r]) := con_split (g := 0) (by kernel_rfl) (fun s sep m w h1 h2 h3 => Go.Proofs.Tryd.strings_Split s sep m w h1 h2 h3) A w hA hT_.1.1 p0 p1 r hr

theorem c_strings_ReplaceAll (A : Nat → Prop) (w : World) (hA : ∀ k, A k → k < w.heap.size) (hT_ : Rdt Tryd.prog w) (p0 p1 p2 : ByteArray) (r : ByteArray) (hr : replG p0 p1 p2 = some r) :
    Con Tryd.prog 64 [.string p0, .string p1, .string p2] A w (fun _ : Unit => .string r) (fun _ => []) := con_repl (g := 0) (by kernel_rfl) (fun s o q m w h1 h2 h3 h4 => Go.Proofs.Tryd.strings_ReplaceAll s o q m w h1 h2 h3 h4) A w hA hT_.1.1 p0 p1 p2 r hr

set_option maxHeartbeats 40000000 in
theorem c_internal_strconv_lower (A : Nat → Prop) (w : World) (hA : ∀ k, A k → k < w.heap.size) (p0 : (Ik .u8)) (r : (Ik .u8)) (hr : F_internal_strconv_lower p0 = some r) :
    Con Tryd.prog 122 [.int .u8 p0.val] A w (fun x_ : Unit => .int .u8 r.val) (fun x_ => []) := by
  refine Con_of (v := fun (r : (Ik .u8)) (x_ : Unit) => .int .u8 r.val) (fs := fun r x_ => []) Tryd.func122 rfl Tryd.ntmps122 rfl (SH.start hA) rfl ?_ hr
  unfold F_internal_strconv_lower
  refine J_seq ?_
  refine J_region ?_
  refine JL_q (wants_none rfl) rfl (ex_assign rfl) ?_
  refine JL_nil ?_
  refine N_then ?_
  refine J_seq ?_
  refine J_region ?_
  refine JL_q (wants_none rfl) rfl (ex_move rfl) ?_
  refine JL_q (wants_none rfl) rfl (ex_ork rfl rfl) ?_
  refine JL_q (wants_none rfl) rfl (ex_assign rfl) ?_
  refine JL_nil ?_
  refine N_then ?_
  refine J_ret ?_
  exact N_ret1 rfl (rv_tmp rfl) (fun w hh => ⟨(), rfl, hh.sel [] rfl⟩)

set_option maxHeartbeats 40000000 in
theorem c_internal_strconv_underscoreOK (A : Nat → Prop) (w : World) (hA : ∀ k, A k → k < w.heap.size) (p0 : ByteArray) (r : Bool) (hr : F_internal_strconv_underscoreOK p0 = some r) :
    Con Tryd.prog 123 [.string p0] A w (fun x_ : Unit => .bool r) (fun x_ => []) := by
  refine Con_of (v := fun (r : Bool) (x_ : Unit) => .bool r) (fs := fun r x_ => []) Tryd.func123 rfl Tryd.ntmps123 rfl (SH.start hA) rfl ?_ hr
  unfold F_internal_strconv_underscoreOK
  refine J_seq ?_
  refine J_region ?_
  refine JL_q (wants_none rfl) rfl (ex_assign rfl) ?_
  refine JL_nil ?_
  refine N_then ?_
  refine J_seq ?_
  refine J_region ?_
  refine JL_q (wants_none rfl) rfl (ex_assign rfl) ?_
  refine JL_nil ?_
  refine N_then ?_
  refine J_seq ?_
  refine J_region ?_
  refine JL_q (wants_none rfl) rfl (ex_assign rfl) ?_
  refine JL_nil ?_
  refine N_then ?_
  refine J_seq ?_
  refine J_cut' (S' := ByteArray) (G' := Unit) (fun s1 _ => [(0, .string s1), (3, .int .i32 94), (4, .int .i64 0)]) (fun s1 _ => []) ?_ (fun s1 g2 => ?_)
  · refine J_seq ?_
    refine J_region ?_
    refine JL_q (wants_none rfl) rfl (ex_move rfl) ?_
    refine JL_q (wants_none rfl) rfl (ex_len_str Tryd.underlying9 rfl) ?_
    refine JL_q (wants_none rfl) rfl (ex_geq rfl rfl) ?_
    refine JL_q (wants_none rfl) rfl (ex_move rfl) ?_
    refine JL_cond (fun h3 => ?_) (fun h3 => ?_)
    · refine JL_q (wants_some rfl rfl rfl h3) rfl (ex_move rfl) ?_
      refine JL_bnd fun y4 hy5 => ?_
      refine JL_q (wants_some rfl rfl rfl h3) rfl (ex_index_str Tryd.underlying9 rfl rfl hy5) ?_
      refine JL_q (wants_some rfl rfl rfl h3) rfl (ex_eql rfl rfl) ?_
      refine JL_q (wants_some rfl rfl rfl h3) rfl (ex_move rfl) ?_
      refine JL_cond (fun h6 => ?_) (fun h6 => ?_)
      · refine JL_passed rfl rfl rfl h6 ?_
        refine JL_passed rfl rfl rfl h6 ?_
        refine JL_passed rfl rfl rfl h6 ?_
        refine JL_q (wants_some rfl rfl rfl h3) rfl (ex_pick_true rfl h6 rfl) ?_
        refine JL_q (wants_none rfl) rfl (ex_pick_true rfl h3 rfl) ?_
        refine JL_nil ?_
        refine N_then ?_
        refine J_if_true rfl rfl ?_
        refine J_region ?_
        refine JL_q (wants_none rfl) rfl (ex_move rfl) ?_
        refine JL_bnd fun z7 hz8 => ?_
        refine JL_q (wants_none rfl) rfl (ex_slice_str Tryd.underlying9 rfl rfl rfl hz8) ?_
        refine JL_q (wants_none rfl) rfl (ex_assign rfl) ?_
        refine JL_nil ?_
        exact N_meet' () ⟨rfl, rfl, rfl, trivial⟩ [] rfl rfl
      · refine JL_q (wants_some rfl rfl rfl h6) rfl (ex_move rfl) ?_
        refine JL_bnd fun y9 hy10 => ?_
        refine JL_q (wants_some rfl rfl rfl h6) rfl (ex_index_str Tryd.underlying9 rfl rfl hy10) ?_
        refine JL_q (wants_some rfl rfl rfl h6) rfl (ex_eql rfl rfl) ?_
        refine JL_q (wants_some rfl rfl rfl h3) rfl (ex_pick_false rfl h6 rfl) ?_
        refine JL_q (wants_none rfl) rfl (ex_pick_true rfl h3 rfl) ?_
        refine JL_nil ?_
        refine N_then ?_
        refine J_if rfl (fun h11 => ?_) (fun h11 => ?_)
        · refine J_region ?_
          refine JL_q (wants_none rfl) rfl (ex_move rfl) ?_
          refine JL_bnd fun z12 hz13 => ?_
          refine JL_q (wants_none rfl) rfl (ex_slice_str Tryd.underlying9 rfl rfl rfl hz13) ?_
          refine JL_q (wants_none rfl) rfl (ex_assign rfl) ?_
          refine JL_nil ?_
          exact N_meet' () ⟨rfl, rfl, rfl, trivial⟩ [] rfl rfl
        · refine J_skip ?_
          exact N_meet' () ⟨rfl, rfl, rfl, trivial⟩ [] rfl rfl
    · refine JL_passed rfl rfl rfl h3 ?_
      refine JL_passed rfl rfl rfl h3 ?_
      refine JL_passed rfl rfl rfl h3 ?_
      refine JL_passed rfl rfl rfl h3 ?_
      refine JL_passed_undef rfl rfl rfl ?_
      refine JL_passed_undef rfl rfl rfl ?_
      refine JL_passed_undef rfl rfl rfl ?_
      refine JL_passed rfl rfl rfl h3 ?_
      refine JL_q (wants_none rfl) rfl (ex_pick_false rfl h3 rfl) ?_
      refine JL_nil ?_
      refine N_then ?_
      refine J_if_false rfl rfl ?_
      refine J_skip ?_
      exact N_meet' () ⟨rfl, rfl, rfl, trivial⟩ [] rfl rfl
  · refine N_then ?_
    refine J_seq ?_
    refine J_region ?_
    refine JL_q (wants_none rfl) rfl (ex_assign rfl) ?_
    refine JL_nil ?_
    refine N_then ?_
    refine J_seq ?_
    refine J_cut' (S' := (Ik .i32) × Int × Bool) (G' := Unit) (fun s14 _ => [(0, .string s1), (3, .int .i32 s14.1.val), (4, .int .i64 s14.2.1), (5, .bool s14.2.2)]) (fun s14 _ => []) ?_ (fun s14 g15 => ?_)
    · refine J_seq ?_
      refine J_region ?_
      refine JL_q (wants_none rfl) rfl (ex_move rfl) ?_
      refine JL_q (wants_none rfl) rfl (ex_len_str Tryd.underlying9 rfl) ?_
      refine JL_q (wants_none rfl) rfl (ex_geq rfl rfl) ?_
      refine JL_q (wants_none rfl) rfl (ex_move rfl) ?_
      refine JL_cond (fun h16 => ?_) (fun h16 => ?_)
      · refine JL_q (wants_some rfl rfl rfl h16) rfl (ex_move rfl) ?_
        refine JL_bnd fun y17 hy18 => ?_
        refine JL_q (wants_some rfl rfl rfl h16) rfl (ex_index_str Tryd.underlying9 rfl rfl hy18) ?_
        refine JL_q (wants_some rfl rfl rfl h16) rfl (ex_eql rfl rfl) ?_
        refine JL_q (wants_none rfl) rfl (ex_pick_true rfl h16 rfl) ?_
        refine JL_q (wants_none rfl) rfl (ex_move rfl) ?_
        refine JL_cond (fun h19 => ?_) (fun h19 => ?_)
        · refine JL_q (wants_some rfl rfl rfl h19) rfl (ex_move rfl) ?_
          refine JL_bnd fun y20 hy21 => ?_
          refine JL_q (wants_some rfl rfl rfl h19) rfl (ex_index_str Tryd.underlying9 rfl rfl hy21) ?_
          refine JL_bnd fun r22 hr23 => ?_
          refine JL_call (wants_some rfl rfl rfl h19) rfl Tryd.call122 rfl (Ca_of0 fun w hh => c_internal_strconv_lower _ w (fun _ hk => hk.elim) _ _ hr23) (fun _ => ?_)
          refine JL_q (wants_some rfl rfl rfl h19) rfl (ex_eql rfl rfl) ?_
          refine JL_q (wants_some rfl rfl rfl h19) rfl (ex_move rfl) ?_
          refine JL_cond (fun h24 => ?_) (fun h24 => ?_)
          · refine JL_passed rfl rfl rfl h24 ?_
            refine JL_passed rfl rfl rfl h24 ?_
            refine JL_passed rfl rfl rfl h24 ?_
            refine JL_passed rfl rfl rfl h24 ?_
            refine JL_q (wants_some rfl rfl rfl h19) rfl (ex_pick_true rfl h24 rfl) ?_
            refine JL_q (wants_some rfl rfl rfl h19) rfl (ex_move rfl) ?_
            refine JL_passed rfl rfl rfl rfl ?_
            refine JL_passed rfl rfl rfl rfl ?_
            refine JL_passed rfl rfl rfl rfl ?_
            refine JL_passed rfl rfl rfl rfl ?_
            refine JL_q (wants_some rfl rfl rfl h19) rfl (ex_pick_true rfl rfl rfl) ?_
            refine JL_q (wants_none rfl) rfl (ex_pick_true rfl h19 rfl) ?_
            refine JL_nil ?_
            refine N_then ?_
            refine J_if_true rfl rfl ?_
            refine J_seq ?_
            refine J_region ?_
            refine JL_q (wants_none rfl) rfl (ex_assign rfl) ?_
            refine JL_nil ?_
            refine N_then ?_
            refine J_seq ?_
            refine J_region ?_
            refine JL_q (wants_none rfl) rfl (ex_assign rfl) ?_
            refine JL_nil ?_
            refine N_then ?_
            refine J_region ?_
            refine JL_q (wants_none rfl) rfl (ex_move rfl) ?_
            refine JL_bnd fun y25 hy26 => ?_
            refine JL_q (wants_none rfl) rfl (ex_index_str Tryd.underlying9 rfl rfl hy26) ?_
            refine JL_bnd fun r27 hr28 => ?_
            refine JL_call (wants_none rfl) rfl Tryd.call122 rfl (Ca_of0 fun w hh => c_internal_strconv_lower _ w (fun _ hk => hk.elim) _ _ hr28) (fun _ => ?_)
            refine JL_q (wants_none rfl) rfl (ex_eql rfl rfl) ?_
            refine JL_q (wants_none rfl) rfl (ex_assign rfl) ?_
            refine JL_nil ?_
            exact N_meet' () ⟨rfl, rfl, rfl, rfl, trivial⟩ [] rfl rfl
          · refine JL_q (wants_some rfl rfl rfl h24) rfl (ex_move rfl) ?_
            refine JL_bnd fun y29 hy30 => ?_
            refine JL_q (wants_some rfl rfl rfl h24) rfl (ex_index_str Tryd.underlying9 rfl rfl hy30) ?_
            refine JL_bnd fun r31 hr32 => ?_
            refine JL_call (wants_some rfl rfl rfl h24) rfl Tryd.call122 rfl (Ca_of0 fun w hh => c_internal_strconv_lower _ w (fun _ hk => hk.elim) _ _ hr32) (fun _ => ?_)
            refine JL_q (wants_some rfl rfl rfl h24) rfl (ex_eql rfl rfl) ?_
            refine JL_q (wants_some rfl rfl rfl h19) rfl (ex_pick_false rfl h24 rfl) ?_
            refine JL_q (wants_some rfl rfl rfl h19) rfl (ex_move rfl) ?_
            refine JL_cond (fun h33 => ?_) (fun h33 => ?_)
            · refine JL_passed rfl rfl rfl h33 ?_
              refine JL_passed rfl rfl rfl h33 ?_
              refine JL_passed rfl rfl rfl h33 ?_
              refine JL_passed rfl rfl rfl h33 ?_
              refine JL_q (wants_some rfl rfl rfl h19) rfl (ex_pick_true rfl h33 rfl) ?_
              refine JL_q (wants_none rfl) rfl (ex_pick_true rfl h19 rfl) ?_
              refine JL_nil ?_
              refine N_then ?_
              refine J_if_true rfl rfl ?_
              refine J_seq ?_
              refine J_region ?_
              refine JL_q (wants_none rfl) rfl (ex_assign rfl) ?_
              refine JL_nil ?_
              refine N_then ?_
              refine J_seq ?_
              refine J_region ?_
              refine JL_q (wants_none rfl) rfl (ex_assign rfl) ?_
              refine JL_nil ?_
              refine N_then ?_
              refine J_region ?_
              refine JL_q (wants_none rfl) rfl (ex_move rfl) ?_
              refine JL_bnd fun y34 hy35 => ?_
              refine JL_q (wants_none rfl) rfl (ex_index_str Tryd.underlying9 rfl rfl hy35) ?_
              refine JL_bnd fun r36 hr37 => ?_
              refine JL_call (wants_none rfl) rfl Tryd.call122 rfl (Ca_of0 fun w hh => c_internal_strconv_lower _ w (fun _ hk => hk.elim) _ _ hr37) (fun _ => ?_)
              refine JL_q (wants_none rfl) rfl (ex_eql rfl rfl) ?_
              refine JL_q (wants_none rfl) rfl (ex_assign rfl) ?_
              refine JL_nil ?_
              exact N_meet' () ⟨rfl, rfl, rfl, rfl, trivial⟩ [] rfl rfl
            · refine JL_q (wants_some rfl rfl rfl h33) rfl (ex_move rfl) ?_
              refine JL_bnd fun y38 hy39 => ?_
              refine JL_q (wants_some rfl rfl rfl h33) rfl (ex_index_str Tryd.underlying9 rfl rfl hy39) ?_
              refine JL_bnd fun r40 hr41 => ?_
              refine JL_call (wants_some rfl rfl rfl h33) rfl Tryd.call122 rfl (Ca_of0 fun w hh => c_internal_strconv_lower _ w (fun _ hk => hk.elim) _ _ hr41) (fun _ => ?_)
              refine JL_q (wants_some rfl rfl rfl h33) rfl (ex_eql rfl rfl) ?_
              refine JL_q (wants_some rfl rfl rfl h19) rfl (ex_pick_false rfl h33 rfl) ?_
              refine JL_q (wants_none rfl) rfl (ex_pick_true rfl h19 rfl) ?_
              refine JL_nil ?_
              refine N_then ?_
              refine J_if rfl (fun h42 => ?_) (fun h42 => ?_)
              · refine J_seq ?_
                refine J_region ?_
                refine JL_q (wants_none rfl) rfl (ex_assign rfl) ?_
                refine JL_nil ?_
                refine N_then ?_
                refine J_seq ?_
                refine J_region ?_
                refine JL_q (wants_none rfl) rfl (ex_assign rfl) ?_
                refine JL_nil ?_
                refine N_then ?_
                refine J_region ?_
                refine JL_q (wants_none rfl) rfl (ex_move rfl) ?_
                refine JL_bnd fun y43 hy44 => ?_
                refine JL_q (wants_none rfl) rfl (ex_index_str Tryd.underlying9 rfl rfl hy44) ?_
                refine JL_bnd fun r45 hr46 => ?_
                refine JL_call (wants_none rfl) rfl Tryd.call122 rfl (Ca_of0 fun w hh => c_internal_strconv_lower _ w (fun _ hk => hk.elim) _ _ hr46) (fun _ => ?_)
                refine JL_q (wants_none rfl) rfl (ex_eql rfl rfl) ?_
                refine JL_q (wants_none rfl) rfl (ex_assign rfl) ?_
                refine JL_nil ?_
                exact N_meet' () ⟨rfl, rfl, rfl, rfl, trivial⟩ [] rfl rfl
              · refine J_skip ?_
                exact N_meet' () ⟨rfl, rfl, rfl, rfl, trivial⟩ [] rfl rfl
        · refine JL_passed rfl rfl rfl h19 ?_
          refine JL_passed rfl rfl rfl h19 ?_
          refine JL_passed rfl rfl rfl h19 ?_
          refine JL_passed rfl rfl rfl h19 ?_
          refine JL_passed rfl rfl rfl h19 ?_
          refine JL_passed_undef rfl rfl rfl ?_
          refine JL_passed_undef rfl rfl rfl ?_
          refine JL_passed_undef rfl rfl rfl ?_
          refine JL_passed_undef rfl rfl rfl ?_
          refine JL_passed rfl rfl rfl h19 ?_
          refine JL_passed rfl rfl rfl h19 ?_
          refine JL_passed_undef rfl rfl rfl ?_
          refine JL_passed_undef rfl rfl rfl ?_
          refine JL_passed_undef rfl rfl rfl ?_
          refine JL_passed_undef rfl rfl rfl ?_
          refine JL_passed rfl rfl rfl h19 ?_
          refine JL_q (wants_none rfl) rfl (ex_pick_false rfl h19 rfl) ?_
          refine JL_nil ?_
          refine N_then ?_
          refine J_if_false rfl rfl ?_
          refine J_skip ?_
          exact N_meet' () ⟨rfl, rfl, rfl, rfl, trivial⟩ [] rfl rfl
      · refine JL_passed rfl rfl rfl h16 ?_
        refine JL_passed rfl rfl rfl h16 ?_
        refine JL_passed rfl rfl rfl h16 ?_
        refine JL_q (wants_none rfl) rfl (ex_pick_false rfl h16 rfl) ?_
        refine JL_q (wants_none rfl) rfl (ex_move rfl) ?_
        refine JL_passed rfl rfl rfl rfl ?_
        refine JL_passed rfl rfl rfl rfl ?_
        refine JL_passed rfl rfl rfl rfl ?_
        refine JL_passed rfl rfl rfl rfl ?_
        refine JL_passed rfl rfl rfl rfl ?_
        refine JL_passed_undef rfl rfl rfl ?_
        refine JL_passed_undef rfl rfl rfl ?_
        refine JL_passed_undef rfl rfl rfl ?_
        refine JL_passed_undef rfl rfl rfl ?_
        refine JL_passed rfl rfl rfl rfl ?_
        refine JL_passed rfl rfl rfl rfl ?_
        refine JL_passed_undef rfl rfl rfl ?_
        refine JL_passed_undef rfl rfl rfl ?_
        refine JL_passed_undef rfl rfl rfl ?_
        refine JL_passed_undef rfl rfl rfl ?_
        refine JL_passed rfl rfl rfl rfl ?_
        refine JL_q (wants_none rfl) rfl (ex_pick_false rfl rfl rfl) ?_
        refine JL_nil ?_
        refine N_then ?_
        refine J_if_false rfl rfl ?_
        refine J_skip ?_
        exact N_meet' () ⟨rfl, rfl, rfl, rfl, trivial⟩ [] rfl rfl
    · refine N_then ?_
      refine J_seq ?_
      refine J_loop' (S := (Ik .i32) × Int) (G := Unit) (F_internal_strconv_underscoreOK_L1 s1 s14) (fun s47 _ => [(0, .string s1), (3, .int .i32 s47.1.val), (4, .int .i64 s47.2), (5, .bool s14.2.2)]) (fun s47 _ => []) (s14.1, s14.2.1) () ⟨rfl, rfl, rfl, rfl, trivial⟩ [] rfl rfl (fun s47 g48 => ?_) (fun s47 g48 => ?_)
      · unfold F_internal_strconv_underscoreOK_L1
        refine J_seq ?_
        refine J_seq ?_
        refine J_region ?_
        refine JL_q (wants_none rfl) rfl (ex_move rfl) ?_
        refine JL_q (wants_none rfl) rfl (ex_move rfl) ?_
        refine JL_q (wants_none rfl) rfl (ex_len_str Tryd.underlying9 rfl) ?_
        refine JL_q (wants_none rfl) rfl (ex_lss rfl rfl) ?_
        refine JL_nil ?_
        refine N_then ?_
        refine J_if rfl (fun h49 => ?_) (fun h49 => ?_)
        · refine J_skip ?_
          refine N_then ?_
          refine J_seq ?_
          refine J_block ?_
          refine J_seq ?_
          refine J_seq ?_
          refine J_cut' (S' := Bool) (G' := Unit) (fun s50 _ => [(0, .string s1), (3, .int .i32 s47.1.val), (4, .int .i64 s47.2), (5, .bool s14.2.2), (83, .bool s50)]) (fun s50 _ => []) ?_ (fun s50 g51 => ?_)
          · refine J_region ?_
            refine JL_q (wants_none rfl) rfl (ex_move rfl) ?_
            refine JL_q (wants_none rfl) rfl (ex_move rfl) ?_
            refine JL_bnd fun y52 hy53 => ?_
            refine JL_q (wants_none rfl) rfl (ex_index_str Tryd.underlying9 rfl rfl hy53) ?_
            refine JL_q (wants_none rfl) rfl (ex_leq rfl rfl) ?_
            refine JL_q (wants_none rfl) rfl (ex_move rfl) ?_
            refine JL_cond (fun h54 => ?_) (fun h54 => ?_)
            · refine JL_q (wants_some rfl rfl rfl h54) rfl (ex_move rfl) ?_
              refine JL_q (wants_some rfl rfl rfl h54) rfl (ex_move rfl) ?_
              refine JL_bnd fun y55 hy56 => ?_
              refine JL_q (wants_some rfl rfl rfl h54) rfl (ex_index_str Tryd.underlying9 rfl rfl hy56) ?_
              refine JL_q (wants_some rfl rfl rfl h54) rfl (ex_leq rfl rfl) ?_
              refine JL_q (wants_none rfl) rfl (ex_pick_true rfl h54 rfl) ?_
              refine JL_q (wants_none rfl) rfl (ex_move rfl) ?_
              refine JL_cond (fun h57 => ?_) (fun h57 => ?_)
              · refine JL_passed rfl rfl rfl h57 ?_
                refine JL_passed rfl rfl rfl h57 ?_
                refine JL_passed_undef rfl rfl rfl ?_
                refine JL_passed_undef rfl rfl rfl ?_
                refine JL_passed_undef rfl rfl rfl ?_
                refine JL_passed_undef rfl rfl rfl ?_
                refine JL_passed_undef rfl rfl rfl ?_
                refine JL_passed rfl rfl rfl h57 ?_
                refine JL_passed rfl rfl rfl h57 ?_
                refine JL_passed_undef rfl rfl rfl ?_
                refine JL_passed_undef rfl rfl rfl ?_
                refine JL_passed_undef rfl rfl rfl ?_
                refine JL_passed_undef rfl rfl rfl ?_
                refine JL_passed_undef rfl rfl rfl ?_
                refine JL_passed rfl rfl rfl h57 ?_
                refine JL_q (wants_none rfl) rfl (ex_pick_true rfl h57 rfl) ?_
                refine JL_nil ?_
                exact N_meet' () ⟨rfl, rfl, rfl, rfl, rfl, trivial⟩ [] rfl rfl
              · refine JL_q (wants_some rfl rfl rfl h57) rfl (ex_move rfl) ?_
                refine JL_q (wants_some rfl rfl rfl h57) rfl (ex_move rfl) ?_
                refine JL_cond (fun h58 => ?_) (fun h58 => ?_)
                · refine JL_q (wants_some rfl rfl rfl h58) rfl (ex_move rfl) ?_
                  refine JL_q (wants_some rfl rfl rfl h58) rfl (ex_move rfl) ?_
                  refine JL_bnd fun y59 hy60 => ?_
                  refine JL_q (wants_some rfl rfl rfl h58) rfl (ex_index_str Tryd.underlying9 rfl rfl hy60) ?_
                  refine JL_bnd fun r61 hr62 => ?_
                  refine JL_call (wants_some rfl rfl rfl h58) rfl Tryd.call122 rfl (Ca_of0 fun w hh => c_internal_strconv_lower _ w (fun _ hk => hk.elim) _ _ hr62) (fun _ => ?_)
                  refine JL_q (wants_some rfl rfl rfl h58) rfl (ex_leq rfl rfl) ?_
                  refine JL_q (wants_some rfl rfl rfl h57) rfl (ex_pick_true rfl h58 rfl) ?_
                  refine JL_q (wants_some rfl rfl rfl h57) rfl (ex_move rfl) ?_
                  refine JL_cond (fun h63 => ?_) (fun h63 => ?_)
                  · refine JL_q (wants_some rfl rfl rfl h63) rfl (ex_move rfl) ?_
                    refine JL_q (wants_some rfl rfl rfl h63) rfl (ex_move rfl) ?_
                    refine JL_bnd fun y64 hy65 => ?_
                    refine JL_q (wants_some rfl rfl rfl h63) rfl (ex_index_str Tryd.underlying9 rfl rfl hy65) ?_
                    refine JL_bnd fun r66 hr67 => ?_
                    refine JL_call (wants_some rfl rfl rfl h63) rfl Tryd.call122 rfl (Ca_of0 fun w hh => c_internal_strconv_lower _ w (fun _ hk => hk.elim) _ _ hr67) (fun _ => ?_)
                    refine JL_q (wants_some rfl rfl rfl h63) rfl (ex_leq rfl rfl) ?_
                    refine JL_q (wants_some rfl rfl rfl h57) rfl (ex_pick_true rfl h63 rfl) ?_
                    refine JL_q (wants_none rfl) rfl (ex_pick_false rfl h57 rfl) ?_
                    refine JL_nil ?_
                    exact N_meet' () ⟨rfl, rfl, rfl, rfl, rfl, trivial⟩ [] rfl rfl
                  · refine JL_passed rfl rfl rfl h63 ?_
                    refine JL_passed rfl rfl rfl h63 ?_
                    refine JL_passed rfl rfl rfl h63 ?_
                    refine JL_passed rfl rfl rfl h63 ?_
                    refine JL_passed rfl rfl rfl h63 ?_
                    refine JL_q (wants_some rfl rfl rfl h57) rfl (ex_pick_false rfl h63 rfl) ?_
                    refine JL_q (wants_none rfl) rfl (ex_pick_false rfl h57 rfl) ?_
                    refine JL_nil ?_
                    exact N_meet' () ⟨rfl, rfl, rfl, rfl, rfl, trivial⟩ [] rfl rfl
                · refine JL_passed rfl rfl rfl h58 ?_
                  refine JL_passed rfl rfl rfl h58 ?_
                  refine JL_passed rfl rfl rfl h58 ?_
                  refine JL_passed rfl rfl rfl h58 ?_
                  refine JL_passed rfl rfl rfl h58 ?_
                  refine JL_q (wants_some rfl rfl rfl h57) rfl (ex_pick_false rfl h58 rfl) ?_
                  refine JL_q (wants_some rfl rfl rfl h57) rfl (ex_move rfl) ?_
                  refine JL_passed rfl rfl rfl rfl ?_
                  refine JL_passed rfl rfl rfl rfl ?_
                  refine JL_passed rfl rfl rfl rfl ?_
                  refine JL_passed rfl rfl rfl rfl ?_
                  refine JL_passed rfl rfl rfl rfl ?_
                  refine JL_q (wants_some rfl rfl rfl h57) rfl (ex_pick_false rfl rfl rfl) ?_
                  refine JL_q (wants_none rfl) rfl (ex_pick_false rfl h57 rfl) ?_
                  refine JL_nil ?_
                  exact N_meet' () ⟨rfl, rfl, rfl, rfl, rfl, trivial⟩ [] rfl rfl
            · refine JL_passed rfl rfl rfl h54 ?_
              refine JL_passed rfl rfl rfl h54 ?_
              refine JL_passed rfl rfl rfl h54 ?_
              refine JL_passed rfl rfl rfl h54 ?_
              refine JL_q (wants_none rfl) rfl (ex_pick_false rfl h54 rfl) ?_
              refine JL_q (wants_none rfl) rfl (ex_move rfl) ?_
              refine JL_q (wants_some rfl rfl rfl rfl) rfl (ex_move rfl) ?_
              refine JL_q (wants_some rfl rfl rfl rfl) rfl (ex_move rfl) ?_
              refine JL_cond (fun h68 => ?_) (fun h68 => ?_)
              · refine JL_q (wants_some rfl rfl rfl h68) rfl (ex_move rfl) ?_
                refine JL_q (wants_some rfl rfl rfl h68) rfl (ex_move rfl) ?_
                refine JL_bnd fun y69 hy70 => ?_
                refine JL_q (wants_some rfl rfl rfl h68) rfl (ex_index_str Tryd.underlying9 rfl rfl hy70) ?_
                refine JL_bnd fun r71 hr72 => ?_
                refine JL_call (wants_some rfl rfl rfl h68) rfl Tryd.call122 rfl (Ca_of0 fun w hh => c_internal_strconv_lower _ w (fun _ hk => hk.elim) _ _ hr72) (fun _ => ?_)
                refine JL_q (wants_some rfl rfl rfl h68) rfl (ex_leq rfl rfl) ?_
                refine JL_q (wants_some rfl rfl rfl rfl) rfl (ex_pick_true rfl h68 rfl) ?_
                refine JL_q (wants_some rfl rfl rfl rfl) rfl (ex_move rfl) ?_
                refine JL_cond (fun h73 => ?_) (fun h73 => ?_)
                · refine JL_q (wants_some rfl rfl rfl h73) rfl (ex_move rfl) ?_
                  refine JL_q (wants_some rfl rfl rfl h73) rfl (ex_move rfl) ?_
                  refine JL_bnd fun y74 hy75 => ?_
                  refine JL_q (wants_some rfl rfl rfl h73) rfl (ex_index_str Tryd.underlying9 rfl rfl hy75) ?_
                  refine JL_bnd fun r76 hr77 => ?_
                  refine JL_call (wants_some rfl rfl rfl h73) rfl Tryd.call122 rfl (Ca_of0 fun w hh => c_internal_strconv_lower _ w (fun _ hk => hk.elim) _ _ hr77) (fun _ => ?_)
                  refine JL_q (wants_some rfl rfl rfl h73) rfl (ex_leq rfl rfl) ?_
                  refine JL_q (wants_some rfl rfl rfl rfl) rfl (ex_pick_true rfl h73 rfl) ?_
                  refine JL_q (wants_none rfl) rfl (ex_pick_false rfl rfl rfl) ?_
                  refine JL_nil ?_
                  exact N_meet' () ⟨rfl, rfl, rfl, rfl, rfl, trivial⟩ [] rfl rfl
                · refine JL_passed rfl rfl rfl h73 ?_
                  refine JL_passed rfl rfl rfl h73 ?_
                  refine JL_passed rfl rfl rfl h73 ?_
                  refine JL_passed rfl rfl rfl h73 ?_
                  refine JL_passed rfl rfl rfl h73 ?_
                  refine JL_q (wants_some rfl rfl rfl rfl) rfl (ex_pick_false rfl h73 rfl) ?_
                  refine JL_q (wants_none rfl) rfl (ex_pick_false rfl rfl rfl) ?_
                  refine JL_nil ?_
                  exact N_meet' () ⟨rfl, rfl, rfl, rfl, rfl, trivial⟩ [] rfl rfl
              · refine JL_passed rfl rfl rfl h68 ?_
                refine JL_passed rfl rfl rfl h68 ?_
                refine JL_passed rfl rfl rfl h68 ?_
                refine JL_passed rfl rfl rfl h68 ?_
                refine JL_passed rfl rfl rfl h68 ?_
                refine JL_q (wants_some rfl rfl rfl rfl) rfl (ex_pick_false rfl h68 rfl) ?_
                refine JL_q (wants_some rfl rfl rfl rfl) rfl (ex_move rfl) ?_
                refine JL_passed rfl rfl rfl rfl ?_
                refine JL_passed rfl rfl rfl rfl ?_
                refine JL_passed rfl rfl rfl rfl ?_
                refine JL_passed rfl rfl rfl rfl ?_
                refine JL_passed rfl rfl rfl rfl ?_
                refine JL_q (wants_some rfl rfl rfl rfl) rfl (ex_pick_false rfl rfl rfl) ?_
                refine JL_q (wants_none rfl) rfl (ex_pick_false rfl rfl rfl) ?_
                refine JL_nil ?_
                exact N_meet' () ⟨rfl, rfl, rfl, rfl, rfl, trivial⟩ [] rfl rfl
          · refine N_then ?_
            refine J_if rfl (fun h78 => ?_) (fun h78 => ?_)
            · refine J_seq ?_
              refine J_region ?_
              refine JL_q (wants_none rfl) rfl (ex_assign rfl) ?_
              refine JL_nil ?_
              refine N_then ?_
              refine J_exit ?_
              refine N_then_exit ?_
              refine N_block_exit ?_
              refine N_then ?_
              refine J_region ?_
              refine JL_q (wants_none rfl) rfl (ex_move rfl) ?_
              refine JL_q (wants_none rfl) rfl (ex_add rfl rfl) ?_
              refine JL_q (wants_none rfl) rfl (ex_assign rfl) ?_
              refine JL_nil ?_
              exact N_next' () ⟨rfl, rfl, rfl, rfl, trivial⟩ [] rfl rfl
            · refine J_skip ?_
              refine N_then ?_
              refine J_seq ?_
              refine J_seq ?_
              refine J_region ?_
              refine JL_q (wants_none rfl) rfl (ex_move rfl) ?_
              refine JL_q (wants_none rfl) rfl (ex_move rfl) ?_
              refine JL_bnd fun y79 hy80 => ?_
              refine JL_q (wants_none rfl) rfl (ex_index_str Tryd.underlying9 rfl rfl hy80) ?_
              refine JL_q (wants_none rfl) rfl (ex_eql rfl rfl) ?_
              refine JL_nil ?_
              refine N_then ?_
              refine J_if rfl (fun h81 => ?_) (fun h81 => ?_)
              · refine J_seq ?_
                refine J_seq ?_
                refine J_region ?_
                refine JL_q (wants_none rfl) rfl (ex_move rfl) ?_
                refine JL_q (wants_none rfl) rfl (ex_neq rfl rfl) ?_
                refine JL_nil ?_
                refine N_then ?_
                refine J_if rfl (fun h82 => ?_) (fun h82 => ?_)
                · refine J_seq ?_
                  refine J_region ?_
                  refine JL_q (wants_none rfl) rfl (ex_assign rfl) ?_
                  refine JL_nil ?_
                  refine N_then ?_
                  refine J_ret ?_
                  refine N_then_ret ?_
                  refine N_then_ret ?_
                  refine N_block_ret ?_
                  refine N_then_ret ?_
                  refine N_round_ret ?_
                  refine N_then_ret ?_
                  exact N_ret1 rfl (rv_tmp rfl) (fun w hh => ⟨(), rfl, hh.sel [] rfl⟩)
                · refine J_skip ?_
                  refine N_then ?_
                  refine J_seq ?_
                  refine J_region ?_
                  refine JL_q (wants_none rfl) rfl (ex_assign rfl) ?_
                  refine JL_nil ?_
                  refine N_then ?_
                  refine J_exit ?_
                  refine N_then_exit ?_
                  refine N_block_exit ?_
                  refine N_then ?_
                  refine J_region ?_
                  refine JL_q (wants_none rfl) rfl (ex_move rfl) ?_
                  refine JL_q (wants_none rfl) rfl (ex_add rfl rfl) ?_
                  refine JL_q (wants_none rfl) rfl (ex_assign rfl) ?_
                  refine JL_nil ?_
                  exact N_next' () ⟨rfl, rfl, rfl, rfl, trivial⟩ [] rfl rfl
              · refine J_skip ?_
                refine N_then ?_
                refine J_seq ?_
                refine J_seq ?_
                refine J_region ?_
                refine JL_q (wants_none rfl) rfl (ex_move rfl) ?_
                refine JL_q (wants_none rfl) rfl (ex_eql rfl rfl) ?_
                refine JL_nil ?_
                refine N_then ?_
                refine J_if rfl (fun h83 => ?_) (fun h83 => ?_)
                · refine J_seq ?_
                  refine J_region ?_
                  refine JL_q (wants_none rfl) rfl (ex_assign rfl) ?_
                  refine JL_nil ?_
                  refine N_then ?_
                  refine J_ret ?_
                  refine N_then_ret ?_
                  refine N_block_ret ?_
                  refine N_then_ret ?_
                  refine N_round_ret ?_
                  refine N_then_ret ?_
                  exact N_ret1 rfl (rv_tmp rfl) (fun w hh => ⟨(), rfl, hh.sel [] rfl⟩)
                · refine J_skip ?_
                  refine N_then ?_
                  refine J_region ?_
                  refine JL_q (wants_none rfl) rfl (ex_assign rfl) ?_
                  refine JL_nil ?_
                  refine N_block ?_
                  refine N_then ?_
                  refine J_region ?_
                  refine JL_q (wants_none rfl) rfl (ex_move rfl) ?_
                  refine JL_q (wants_none rfl) rfl (ex_add rfl rfl) ?_
                  refine JL_q (wants_none rfl) rfl (ex_assign rfl) ?_
                  refine JL_nil ?_
                  exact N_next' () ⟨rfl, rfl, rfl, rfl, trivial⟩ [] rfl rfl
        · refine J_exit ?_
          refine N_then_exit ?_
          exact N_break' () ⟨rfl, rfl, rfl, rfl, trivial⟩ [] rfl rfl
      · refine N_then ?_
        refine J_seq ?_
        refine J_region ?_
        refine JL_q (wants_none rfl) rfl (ex_move rfl) ?_
        refine JL_q (wants_none rfl) rfl (ex_neq rfl rfl) ?_
        refine JL_q (wants_none rfl) rfl (ex_assign rfl) ?_
        refine JL_nil ?_
        refine N_then ?_
        refine J_ret ?_
        exact N_ret1 rfl (rv_tmp rfl) (fun w hh => ⟨(), rfl, hh.sel [] rfl⟩)

set_option maxHeartbeats 40000000 in
theorem c_internal_strconv_small (A : Nat → Prop) (w : World) (hA : ∀ k, A k → k < w.heap.size) (p0 : Int) (r : ByteArray) (hr : F_internal_strconv_small p0 = some r) :
    Con Tryd.prog 95 [.int .i64 p0] A w (fun x_ : Unit => .string r) (fun x_ => []) := by
  refine Con_of (v := fun (r : ByteArray) (x_ : Unit) => .string r) (fs := fun r x_ => []) Tryd.func95 rfl Tryd.ntmps95 rfl (SH.start hA) rfl ?_ hr
  unfold F_internal_strconv_small
  refine J_seq ?_
  refine J_region ?_
  refine JL_q (wants_none rfl) rfl (ex_assign rfl) ?_
  refine JL_nil ?_
  refine N_then ?_
  refine J_seq ?_
  refine J_seq ?_
  refine J_region ?_
  refine JL_q (wants_none rfl) rfl (ex_move rfl) ?_
  refine JL_q (wants_none rfl) rfl (ex_lss rfl rfl) ?_
  refine JL_nil ?_
  refine N_then ?_
  refine J_if rfl (fun h1 => ?_) (fun h1 => ?_)
  · refine J_seq ?_
    refine J_region ?_
    refine JL_q (wants_none rfl) rfl (ex_move rfl) ?_
    refine JL_q (wants_none rfl) rfl (ex_move rfl) ?_
    refine JL_q (wants_none rfl) rfl (ex_add rfl rfl) ?_
    refine JL_bnd fun z2 hz3 => ?_
    refine JL_q (wants_none rfl) rfl (ex_slice_str Tryd.underlying9 rfl rfl rfl hz3) ?_
    refine JL_q (wants_none rfl) rfl (ex_assign rfl) ?_
    refine JL_nil ?_
    refine N_then ?_
    refine J_ret ?_
    refine N_then_ret ?_
    exact N_ret1 rfl (rv_tmp rfl) (fun w hh => ⟨(), rfl, hh.sel [] rfl⟩)
  · refine J_skip ?_
    refine N_then ?_
    refine J_seq ?_
    refine J_region ?_
    refine JL_q (wants_none rfl) rfl (ex_move rfl) ?_
    refine JL_q (wants_none rfl) rfl (ex_mul rfl rfl) ?_
    refine JL_q (wants_none rfl) rfl (ex_move rfl) ?_
    refine JL_q (wants_none rfl) rfl (ex_mul rfl rfl) ?_
    refine JL_q (wants_none rfl) rfl (ex_add rfl rfl) ?_
    refine JL_bnd fun z4 hz5 => ?_
    refine JL_q (wants_none rfl) rfl (ex_slice_str Tryd.underlying9 rfl rfl rfl hz5) ?_
    refine JL_q (wants_none rfl) rfl (ex_assign rfl) ?_
    refine JL_nil ?_
    refine N_then ?_
    refine J_ret ?_
    exact N_ret1 rfl (rv_tmp rfl) (fun w hh => ⟨(), rfl, hh.sel [] rfl⟩)

set_option maxHeartbeats 40000000 in
theorem c_math_bits_Len64 (A : Nat → Prop) (w : World) (hA : ∀ k, A k → k < w.heap.size) (p0 : (Ik .u64)) (r : Int) (hr : F_math_bits_Len64 p0 = some r) :
    Con Tryd.prog 109 [.int .u64 p0.val] A w (fun x_ : Unit => .int .i64 r) (fun x_ => []) := by
  refine Con_of (v := fun (r : Int) (x_ : Unit) => .int .i64 r) (fs := fun r x_ => []) Tryd.func109 rfl Tryd.ntmps109 rfl (SH.start hA) rfl ?_ hr
  unfold F_math_bits_Len64
  refine J_seq ?_
  refine J_region ?_
  refine JL_q (wants_none rfl) rfl (ex_assign rfl) ?_
  refine JL_nil ?_
  refine N_then ?_
  refine J_seq ?_
  refine J_cut' (S' := (Ik .u64) × Int) (G' := Unit) (fun s1 _ => [(0, .int .u64 s1.1.val), (2, .int .i64 s1.2)]) (fun s1 _ => []) ?_ (fun s1 g2 => ?_)
  · refine J_seq ?_
    refine J_region ?_
    refine JL_q (wants_none rfl) rfl (ex_move rfl) ?_
    refine JL_q (wants_none rfl) rfl (ex_geq rfl rfl) ?_
    refine JL_nil ?_
    refine N_then ?_
    refine J_if rfl (fun h3 => ?_) (fun h3 => ?_)
    · refine J_seq ?_
      refine J_region ?_
      refine JL_q (wants_none rfl) rfl (ex_move rfl) ?_
      refine JL_q (wants_none rfl) rfl (ex_shrk rfl rfl (by decide)) ?_
      refine JL_q (wants_none rfl) rfl (ex_assign rfl) ?_
      refine JL_nil ?_
      refine N_then ?_
      refine J_region ?_
      refine JL_q (wants_none rfl) rfl (ex_assign rfl) ?_
      refine JL_nil ?_
      exact N_meet' () ⟨rfl, rfl, trivial⟩ [] rfl rfl
    · refine J_skip ?_
      exact N_meet' () ⟨rfl, rfl, trivial⟩ [] rfl rfl
  · refine N_then ?_
    refine J_seq ?_
    refine J_cut' (S' := (Ik .u64) × Int) (G' := Unit) (fun s4 _ => [(0, .int .u64 s4.1.val), (2, .int .i64 s4.2)]) (fun s4 _ => []) ?_ (fun s4 g5 => ?_)
    · refine J_seq ?_
      refine J_region ?_
      refine JL_q (wants_none rfl) rfl (ex_move rfl) ?_
      refine JL_q (wants_none rfl) rfl (ex_geq rfl rfl) ?_
      refine JL_nil ?_
      refine N_then ?_
      refine J_if rfl (fun h6 => ?_) (fun h6 => ?_)
      · refine J_seq ?_
        refine J_region ?_
        refine JL_q (wants_none rfl) rfl (ex_move rfl) ?_
        refine JL_q (wants_none rfl) rfl (ex_shrk rfl rfl (by decide)) ?_
        refine JL_q (wants_none rfl) rfl (ex_assign rfl) ?_
        refine JL_nil ?_
        refine N_then ?_
        refine J_region ?_
        refine JL_q (wants_none rfl) rfl (ex_move rfl) ?_
        refine JL_q (wants_none rfl) rfl (ex_add rfl rfl) ?_
        refine JL_q (wants_none rfl) rfl (ex_assign rfl) ?_
        refine JL_nil ?_
        exact N_meet' () ⟨rfl, rfl, trivial⟩ [] rfl rfl
      · refine J_skip ?_
        exact N_meet' () ⟨rfl, rfl, trivial⟩ [] rfl rfl
    · refine N_then ?_
      refine J_seq ?_
      refine J_seq ?_
      refine J_region ?_
      refine JL_q (wants_none rfl) rfl (ex_move rfl) ?_
      refine JL_q (wants_none rfl) rfl (ex_geq rfl rfl) ?_
      refine JL_nil ?_
      refine N_then ?_
      refine J_if rfl (fun h7 => ?_) (fun h7 => ?_)
      · refine J_seq ?_
        refine J_region ?_
        refine JL_q (wants_none rfl) rfl (ex_move rfl) ?_
        refine JL_q (wants_none rfl) rfl (ex_shrk rfl rfl (by decide)) ?_
        refine JL_q (wants_none rfl) rfl (ex_assign rfl) ?_
        refine JL_nil ?_
        refine N_then ?_
        refine J_region ?_
        refine JL_q (wants_none rfl) rfl (ex_move rfl) ?_
        refine JL_q (wants_none rfl) rfl (ex_add rfl rfl) ?_
        refine JL_q (wants_none rfl) rfl (ex_assign rfl) ?_
        refine JL_nil ?_
        refine N_then ?_
        refine J_seq ?_
        refine J_region ?_
        refine JL_q (wants_none rfl) rfl (ex_move rfl) ?_
        refine JL_q (wants_none rfl) rfl (ex_move rfl) ?_
        refine JL_q (wants_none rfl) rfl (ex_conv_ik Tryd.underlying113 Tryd.underlying5 rfl) ?_
        refine JL_bnd fun y8 hy9 => ?_
        refine JL_q (wants_none rfl) rfl (ex_index_str Tryd.underlying9 rfl rfl hy9) ?_
        refine JL_q (wants_none rfl) rfl (ex_conv_i64 Tryd.underlying5 Tryd.underlying3 rfl) ?_
        refine JL_q (wants_none rfl) rfl (ex_add rfl rfl) ?_
        refine JL_q (wants_none rfl) rfl (ex_assign rfl) ?_
        refine JL_nil ?_
        refine N_then ?_
        refine J_ret ?_
        exact N_ret1 rfl (rv_tmp rfl) (fun w hh => ⟨(), rfl, hh.sel [] rfl⟩)
      · refine J_skip ?_
        refine N_then ?_
        refine J_seq ?_
        refine J_region ?_
        refine JL_q (wants_none rfl) rfl (ex_move rfl) ?_
        refine JL_q (wants_none rfl) rfl (ex_move rfl) ?_
        refine JL_q (wants_none rfl) rfl (ex_conv_ik Tryd.underlying113 Tryd.underlying5 rfl) ?_
        refine JL_bnd fun y10 hy11 => ?_
        refine JL_q (wants_none rfl) rfl (ex_index_str Tryd.underlying9 rfl rfl hy11) ?_
        refine JL_q (wants_none rfl) rfl (ex_conv_i64 Tryd.underlying5 Tryd.underlying3 rfl) ?_
        refine JL_q (wants_none rfl) rfl (ex_add rfl rfl) ?_
        refine JL_q (wants_none rfl) rfl (ex_assign rfl) ?_
        refine JL_nil ?_
        refine N_then ?_
        refine J_ret ?_
        exact N_ret1 rfl (rv_tmp rfl) (fun w hh => ⟨(), rfl, hh.sel [] rfl⟩)

set_option maxHeartbeats 40000000 in
theorem c_internal_strconv_log10Pow2 (A : Nat → Prop) (w : World) (hA : ∀ k, A k → k < w.heap.size) (p0 : Int) (r : Int) (hr : F_internal_strconv_log10Pow2 p0 = some r) :
    Con Tryd.prog 108 [.int .i64 p0] A w (fun x_ : Unit => .int .i64 r) (fun x_ => []) := by
  refine Con_of (v := fun (r : Int) (x_ : Unit) => .int .i64 r) (fs := fun r x_ => []) Tryd.func108 rfl Tryd.ntmps108 rfl (SH.start hA) rfl ?_ hr
  unfold F_internal_strconv_log10Pow2
  refine J_seq ?_
  refine J_region ?_
  refine JL_q (wants_none rfl) rfl (ex_assign rfl) ?_
  refine JL_nil ?_
  refine N_then ?_
  refine J_seq ?_
  refine J_region ?_
  refine JL_q (wants_none rfl) rfl (ex_move rfl) ?_
  refine JL_q (wants_none rfl) rfl (ex_mul rfl rfl) ?_
  refine JL_q (wants_none rfl) rfl (ex_shr rfl rfl (by decide)) ?_
  refine JL_q (wants_none rfl) rfl (ex_assign rfl) ?_
  refine JL_nil ?_
  refine N_then ?_
  refine J_ret ?_
  exact N_ret1 rfl (rv_tmp rfl) (fun w hh => ⟨(), rfl, hh.sel [] rfl⟩)

set_option maxHeartbeats 40000000 in
theorem c_internal_strconv_bool2_int (A : Nat → Prop) (w : World) (hA : ∀ k, A k → k < w.heap.size) (p0 : Bool) (r : Int) (hr : F_internal_strconv_bool2_int p0 = some r) :
    Con Tryd.prog 110 [.bool p0] A w (fun x_ : Unit => .int .i64 r) (fun x_ => []) := by
  refine Con_of (v := fun (r : Int) (x_ : Unit) => .int .i64 r) (fs := fun r x_ => []) Tryd.func110 rfl Tryd.ntmps110 rfl (SH.start hA) rfl ?_ hr
  unfold F_internal_strconv_bool2_int
  refine J_seq ?_
  refine J_region ?_
  refine JL_q (wants_none rfl) rfl (ex_assign rfl) ?_
  refine JL_nil ?_
  refine N_then ?_
  refine J_seq ?_
  refine J_seq ?_
  refine J_region ?_
  refine JL_q (wants_none rfl) rfl (ex_move rfl) ?_
  refine JL_nil ?_
  refine N_then ?_
  refine J_if rfl (fun h1 => ?_) (fun h1 => ?_)
  · refine J_seq ?_
    refine J_region ?_
    refine JL_q (wants_none rfl) rfl (ex_assign rfl) ?_
    refine JL_nil ?_
    refine N_then ?_
    refine J_ret ?_
    refine N_then_ret ?_
    exact N_ret1 rfl (rv_tmp rfl) (fun w hh => ⟨(), rfl, hh.sel [] rfl⟩)
  · refine J_skip ?_
    refine N_then ?_
    refine J_seq ?_
    refine J_region ?_
    refine JL_q (wants_none rfl) rfl (ex_assign rfl) ?_
    refine JL_nil ?_
    refine N_then ?_
    refine J_ret ?_
    exact N_ret1 rfl (rv_tmp rfl) (fun w hh => ⟨(), rfl, hh.sel [] rfl⟩)

set_option maxHeartbeats 40000000 in
theorem c_internal_strconv_isPowerOfTwo (A : Nat → Prop) (w : World) (hA : ∀ k, A k → k < w.heap.size) (p0 : Int) (r : Bool) (hr : F_internal_strconv_isPowerOfTwo p0 = some r) :
    Con Tryd.prog 111 [.int .i64 p0] A w (fun x_ : Unit => .bool r) (fun x_ => []) := by
  refine Con_of (v := fun (r : Bool) (x_ : Unit) => .bool r) (fs := fun r x_ => []) Tryd.func111 rfl Tryd.ntmps111 rfl (SH.start hA) rfl ?_ hr
  unfold F_internal_strconv_isPowerOfTwo
  refine J_seq ?_
  refine J_region ?_
  refine JL_q (wants_none rfl) rfl (ex_assign rfl) ?_
  refine JL_nil ?_
  refine N_then ?_
  refine J_seq ?_
  refine J_region ?_
  refine JL_q (wants_none rfl) rfl (ex_move rfl) ?_
  refine JL_q (wants_none rfl) rfl (ex_move rfl) ?_
  refine JL_q (wants_none rfl) rfl (ex_sub rfl rfl) ?_
  refine JL_q (wants_none rfl) rfl (ex_and rfl rfl) ?_
  refine JL_q (wants_none rfl) rfl (ex_eql rfl rfl) ?_
  refine JL_q (wants_none rfl) rfl (ex_assign rfl) ?_
  refine JL_nil ?_
  refine N_then ?_
  refine J_ret ?_
  exact N_ret1 rfl (rv_tmp rfl) (fun w hh => ⟨(), rfl, hh.sel [] rfl⟩)

theorem c_strconv_ParseInt (A : Nat → Prop) (w : World) (hA : ∀ k, A k → k < w.heap.size) (hT_ : Rdt Tryd.prog w) (p0 : ByteArray) (p1 p2 : Int) (r : Int × Bool) (hr : parseG p0 p1 p2 = some r) :
    Con Tryd.prog 93 [.string p0, .int .i64 p1, .int .i64 p2] A w (fun x : Nat => .tuple #[.int .i64 r.1, errV 136 r.2 x]) (fun _ => []) :=
  con_parse (gs := 4) (gr := 5) (by kernel_rfl) (by kernel_rfl) 5 (fun s h1 v h2 w => Go.Proofs.Tryd.strconv_ParseInt_10_at64_ok s h1 v h2 w)
    (fun s h1 h2 ev w h3 h4 => (Go.Proofs.Tryd.strconv_ParseInt_10_at64_syntax s h1 h2 ev w h3 h4).mono fun e w' hq => by obtain ⟨N, q1, _, _, q2⟩ := hq; exact ⟨N, q1, q2⟩)
    (fun s h1 h2 ev w h3 h4 => (Go.Proofs.Tryd.strconv_ParseInt_10_at64_range s h1 h2 ev w h3 h4).mono fun e w' hq => by obtain ⟨N, q1, _, _, q2⟩ := hq; exact ⟨N, q1, q2⟩) A w hA hT_.2 p0 p1 p2 r hr

theorem c_strconv_FormatInt (A : Nat → Prop) (w : World) (hA : ∀ k, A k → k < w.heap.size) (hT_ : Rdt Tryd.prog w) (p0 p1 : Int) (r : ByteArray) (hr : fmtG p0 p1 = some r) :
    Con Tryd.prog 67 [.int .i64 p0, .int .i64 p1] A w (fun _ : Unit => .string r) (fun _ => []) := con_fmt (fun n h0 h1 w ht => Go.Proofs.Tryd.strconv_FormatInt_10 n h0 h1 w ht) A w hA hT_.1.2 p0 p1 r hr

set_option maxHeartbeats 40000000 in
theorem c_impl_Decimal (A : Nat → Prop) (w : World) (hA : ∀ k, A k → k < w.heap.size) (hT_ : Rdt Tryd.prog w) (p0 : Int) (r : ByteArray) (hr : F_impl_Decimal p0 = some r) :
    Con Tryd.prog 47 [.int .i64 p0] A w (fun x_ : Unit => .string r) (fun x_ => []) := by
  refine Con_of (v := fun (r : ByteArray) (x_ : Unit) => .string r) (fs := fun r x_ => []) Tryd.func47 rfl Tryd.ntmps47 rfl (SH.start hA) rfl ?_ hr
  unfold F_impl_Decimal
  refine J_seq ?_
  refine J_region ?_
  refine JL_q (wants_none rfl) rfl (ex_assign rfl) ?_
  refine JL_nil ?_
  refine N_then ?_
  refine J_seq ?_
  refine J_region ?_
  refine JL_q (wants_none rfl) rfl (ex_move rfl) ?_
  refine JL_bnd fun r1 hr2 => ?_
  refine JL_call (wants_none rfl) rfl Tryd.call67 rfl (Ca_of0 fun w hh => c_strconv_FormatInt _ w (fun _ hk => hk.elim) (Rdt.of hT_ hh) _ _ _ hr2) (fun _ => ?_)
  refine JL_q (wants_none rfl) rfl (ex_assign rfl) ?_
  refine JL_nil ?_
  refine N_then ?_
  refine J_ret ?_
  exact N_ret1 rfl (rv_tmp rfl) (fun w hh => ⟨(), rfl, hh.sel [] rfl⟩)

set_option maxHeartbeats 40000000 in
theorem c_internal_stringslite_HasPrefix (A : Nat → Prop) (w : World) (hA : ∀ k, A k → k < w.heap.size) (p0 : ByteArray) (p1 : ByteArray) (r : Bool) (hr : F_internal_stringslite_HasPrefix p0 p1 = some r) :
    Con Tryd.prog 119 [.string p0, .string p1] A w (fun x_ : Unit => .bool r) (fun x_ => []) := by
  refine Con_of (v := fun (r : Bool) (x_ : Unit) => .bool r) (fs := fun r x_ => []) Tryd.func119 rfl Tryd.ntmps119 rfl (SH.start hA) rfl ?_ hr
  unfold F_internal_stringslite_HasPrefix
  refine J_seq ?_
  refine J_region ?_
  refine JL_q (wants_none rfl) rfl (ex_assign rfl) ?_
  refine JL_nil ?_
  refine N_then ?_
  refine J_seq ?_
  refine J_region ?_
  refine JL_q (wants_none rfl) rfl (ex_move rfl) ?_
  refine JL_q (wants_none rfl) rfl (ex_len_str Tryd.underlying9 rfl) ?_
  refine JL_q (wants_none rfl) rfl (ex_move rfl) ?_
  refine JL_q (wants_none rfl) rfl (ex_len_str Tryd.underlying9 rfl) ?_
  refine JL_q (wants_none rfl) rfl (ex_geq rfl rfl) ?_
  refine JL_q (wants_none rfl) rfl (ex_move rfl) ?_
  refine JL_cond (fun h1 => ?_) (fun h1 => ?_)
  · refine JL_q (wants_some rfl rfl rfl h1) rfl (ex_move rfl) ?_
    refine JL_q (wants_some rfl rfl rfl h1) rfl (ex_move rfl) ?_
    refine JL_q (wants_some rfl rfl rfl h1) rfl (ex_len_str Tryd.underlying9 rfl) ?_
    refine JL_bnd fun z2 hz3 => ?_
    refine JL_q (wants_some rfl rfl rfl h1) rfl (ex_slice_str Tryd.underlying9 rfl rfl rfl hz3) ?_
    refine JL_q (wants_some rfl rfl rfl h1) rfl (ex_move rfl) ?_
    refine JL_q (wants_some rfl rfl rfl h1) rfl (ex_eql_str rfl rfl) ?_
    refine JL_q (wants_none rfl) rfl (ex_pick_true rfl h1 rfl) ?_
    refine JL_q (wants_none rfl) rfl (ex_assign rfl) ?_
    refine JL_nil ?_
    refine N_then ?_
    refine J_ret ?_
    exact N_ret1 rfl (rv_tmp rfl) (fun w hh => ⟨(), rfl, hh.sel [] rfl⟩)
  · refine JL_passed rfl rfl rfl h1 ?_
    refine JL_passed rfl rfl rfl h1 ?_
    refine JL_passed rfl rfl rfl h1 ?_
    refine JL_passed rfl rfl rfl h1 ?_
    refine JL_passed rfl rfl rfl h1 ?_
    refine JL_passed rfl rfl rfl h1 ?_
    refine JL_q (wants_none rfl) rfl (ex_pick_false rfl h1 rfl) ?_
    refine JL_q (wants_none rfl) rfl (ex_assign rfl) ?_
    refine JL_nil ?_
    refine N_then ?_
    refine J_ret ?_
    exact N_ret1 rfl (rv_tmp rfl) (fun w hh => ⟨(), rfl, hh.sel [] rfl⟩)

set_option maxHeartbeats 40000000 in
theorem c_internal_stringslite_TrimPrefix (A : Nat → Prop) (w : World) (hA : ∀ k, A k → k < w.heap.size) (p0 : ByteArray) (p1 : ByteArray) (r : ByteArray) (hr : F_internal_stringslite_TrimPrefix p0 p1 = some r) :
    Con Tryd.prog 107 [.string p0, .string p1] A w (fun x_ : Unit => .string r) (fun x_ => []) := by
  refine Con_of (v := fun (r : ByteArray) (x_ : Unit) => .string r) (fs := fun r x_ => []) Tryd.func107 rfl Tryd.ntmps107 rfl (SH.start hA) rfl ?_ hr
  unfold F_internal_stringslite_TrimPrefix
  refine J_seq ?_
  refine J_region ?_
  refine JL_q (wants_none rfl) rfl (ex_assign rfl) ?_
  refine JL_nil ?_
  refine N_then ?_
  refine J_seq ?_
  refine J_seq ?_
  refine J_region ?_
  refine JL_q (wants_none rfl) rfl (ex_move rfl) ?_
  refine JL_q (wants_none rfl) rfl (ex_move rfl) ?_
  refine JL_bnd fun r1 hr2 => ?_
  refine JL_call (wants_none rfl) rfl Tryd.call119 rfl (Ca_of0 fun w hh => c_internal_stringslite_HasPrefix _ w (fun _ hk => hk.elim) _ _ _ hr2) (fun _ => ?_)
  refine JL_nil ?_
  refine N_then ?_
  refine J_if rfl (fun h3 => ?_) (fun h3 => ?_)
  · refine J_seq ?_
    refine J_region ?_
    refine JL_q (wants_none rfl) rfl (ex_move rfl) ?_
    refine JL_q (wants_none rfl) rfl (ex_move rfl) ?_
    refine JL_q (wants_none rfl) rfl (ex_len_str Tryd.underlying9 rfl) ?_
    refine JL_bnd fun z4 hz5 => ?_
    refine JL_q (wants_none rfl) rfl (ex_slice_str Tryd.underlying9 rfl rfl rfl hz5) ?_
    refine JL_q (wants_none rfl) rfl (ex_assign rfl) ?_
    refine JL_nil ?_
    refine N_then ?_
    refine J_ret ?_
    refine N_then_ret ?_
    exact N_ret1 rfl (rv_tmp rfl) (fun w hh => ⟨(), rfl, hh.sel [] rfl⟩)
  · refine J_skip ?_
    refine N_then ?_
    refine J_seq ?_
    refine J_region ?_
    refine JL_q (wants_none rfl) rfl (ex_move rfl) ?_
    refine JL_q (wants_none rfl) rfl (ex_assign rfl) ?_
    refine JL_nil ?_
    refine N_then ?_
    refine J_ret ?_
    exact N_ret1 rfl (rv_tmp rfl) (fun w hh => ⟨(), rfl, hh.sel [] rfl⟩)

set_option maxHeartbeats 40000000 in
theorem c_strings_TrimPrefix (A : Nat → Prop) (w : World) (hA : ∀ k, A k → k < w.heap.size) (p0 : ByteArray) (p1 : ByteArray) (r : ByteArray) (hr : F_strings_TrimPrefix p0 p1 = some r) :
    Con Tryd.prog 94 [.string p0, .string p1] A w (fun x_ : Unit => .string r) (fun x_ => []) := by
  refine Con_of (v := fun (r : ByteArray) (x_ : Unit) => .string r) (fs := fun r x_ => []) Tryd.func94 rfl Tryd.ntmps94 rfl (SH.start hA) rfl ?_ hr
  unfold F_strings_TrimPrefix
  refine J_seq ?_
  refine J_region ?_
  refine JL_q (wants_none rfl) rfl (ex_assign rfl) ?_
  refine JL_nil ?_
  refine N_then ?_
  refine J_seq ?_
  refine J_region ?_
  refine JL_q (wants_none rfl) rfl (ex_move rfl) ?_
  refine JL_q (wants_none rfl) rfl (ex_move rfl) ?_
  refine JL_bnd fun r1 hr2 => ?_
  refine JL_call (wants_none rfl) rfl Tryd.call107 rfl (Ca_of0 fun w hh => c_internal_stringslite_TrimPrefix _ w (fun _ hk => hk.elim) _ _ _ hr2) (fun _ => ?_)
  refine JL_q (wants_none rfl) rfl (ex_assign rfl) ?_
  refine JL_nil ?_
  refine N_then ?_
  refine J_ret ?_
  exact N_ret1 rfl (rv_tmp rfl) (fun w hh => ⟨(), rfl, hh.sel [] rfl⟩)

end Go.Proofs.YtnpkepfmicgelaaDoor
