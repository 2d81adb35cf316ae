/-
  Each function of the program computes what its plain function says: printed by program. No condition.
-/
import Derived.Test.YtceimgjcikkadaaFn
import Derived.Test.YtceimgjcikkadaaInf
namespace Go.Proofs.Ytceimgjcikkadaa
open Go Go.Tc Go.Fn
set_option linter.unusedVariables false

set_option maxHeartbeats 40000000 in
theorem c_slices_Clone_Sint64_int64 (A : Nat → Prop) (w : World) (hA : ∀ k, A k → k < w.heap.size) (v0_ : Value) (p0 : (List Int)) (hp0 : Rd A w v0_ p0) (r : (List Int)) (hr : F_slices_Clone_Sint64_int64 p0 = some r) :
    Con Try.prog 86 [v0_] A w (fun x_ : Value => x_) (fun x_ => [.ow 2 x_ r]) := by
  refine Con_of (v := fun (r : (List Int)) (x_ : Value) => x_) (fs := fun r x_ => [.ow 2 x_ r]) Try.func86 rfl Try.ntmps86 rfl ((SH.start hA).start_rd rfl hp0) rfl ?_ hr
  unfold F_slices_Clone_Sint64_int64
  refine J_seq ?_
  refine J_region ?_
  refine JL_q (wants_none rfl) rfl (ex_assign rfl) ?_
  refine JL_nil ?_
  refine N_then ?_
  refine J_seq ?_
  refine J_seq ?_
  refine J_region ?_
  refine JL_q (wants_none rfl) rfl (ex_move rfl) ?_
  refine JL_eqnil 0 Try.underlying35 rfl rfl (wants_none rfl) rfl (fun hx1 => ?_) ?_
  · refine JL_conv (E' := (some ([] : (List Int)))) (by rw [hx1]; rfl) ?_
    refine JL_nil ?_
    refine N_then ?_
    refine J_if_true rfl rfl ?_
    refine J_seq ?_
    refine J_region ?_
    refine JL_q (wants_none rfl) rfl (ex_assign rfl) ?_
    refine JL_nil ?_
    refine N_then ?_
    refine J_ret ?_
    refine N_then_ret ?_
    refine N_ctx (fun w hh => SH.ow_nil (α := Int) 2 hh) ?_
    exact N_ret1 rfl (rv_tmp rfl) (fun w hh => ⟨(.slice none 0 0 : Value), rfl, hh.sel [0] rfl⟩)
  · refine JL_nil ?_
    refine N_then ?_
    refine J_if_false rfl rfl ?_
    refine J_skip ?_
    refine N_then ?_
    refine J_seq ?_
    refine J_region ?_
    refine JL_st (wants_none rfl) rfl (st_buildSlice (vs := []) ([] : List Int) Try.underlying35 ti_2 zi_2 rfl rfl rfl (fun w hh => trivial)) (fun b2 => ?_)
    refine JL_q (wants_none rfl) rfl (ex_move rfl) ?_
    refine JL_bnd fun z3 hz4 => ?_
    refine JL_st (wants_none rfl) rfl (st_append 0 Try.underlying35 ti_2 zi_2 rfl bi_2 rfl rfl rfl rfl (fun w hh => hh.src_rd 1 rfl) hz4) (fun v5 => ?_)
    refine JL_q (wants_none rfl) rfl (ex_assign rfl) ?_
    refine JL_nil ?_
    refine N_then ?_
    refine J_ret ?_
    exact N_ret1 rfl (rv_tmp rfl) (fun w hh => ⟨v5, rfl, hh.sel [0] rfl⟩)

set_option maxHeartbeats 40000000 in
theorem c_impl_reversed (A : Nat → Prop) (w : World) (hA : ∀ k, A k → k < w.heap.size) (v0_ : Value) (p0 : (List Int)) (hp0 : Rd A w v0_ p0) (r : (List Int)) (hr : F_impl_reversed p0 = some r) :
    Con Try.prog 58 [v0_] A w (fun x_ : Value => x_) (fun x_ => [.ow 2 x_ r]) := by
  refine Con_of (v := fun (r : (List Int)) (x_ : Value) => x_) (fs := fun r x_ => [.ow 2 x_ r]) Try.func58 rfl Try.ntmps58 rfl ((SH.start hA).start_rd rfl hp0) rfl ?_ hr
  unfold F_impl_reversed
  refine J_seq ?_
  refine J_region ?_
  refine JL_q (wants_none rfl) rfl (ex_assign rfl) ?_
  refine JL_nil ?_
  refine N_then ?_
  refine J_seq ?_
  refine J_region ?_
  refine JL_q (wants_none rfl) rfl (ex_move rfl) ?_
  refine JL_bnd fun r1 hr2 => ?_
  refine JL_call (wants_none rfl) rfl Try.call86 rfl (Ca_self (fun _ => rfl) fun w hh => c_slices_Clone_Sint64_int64 _ w (fun _ hk => hk.elim) _ _ (hh.rd0 0 rfl) _ hr2) (fun x3 => ?_)
  refine JL_q (wants_none rfl) rfl (ex_assign rfl) ?_
  refine JL_nil ?_
  refine N_then ?_
  refine J_seq ?_
  refine J_region ?_
  refine JL_q (wants_none rfl) rfl (ex_move rfl) ?_
  refine JL_inline (wants_none rfl) rfl Try.call87 rfl Try.func87 rfl Try.ntmps87 rfl rfl (fun K_ hK4 => ?_)
  refine J_seq ?_
  refine J_region ?_
  refine JL_q (wants_none rfl) rfl (ex_move rfl) ?_
  refine JL_q (wants_none rfl) rfl (ex_len_ow 0 Try.underlying35 rfl rfl) ?_
  refine JL_q (wants_none rfl) rfl (ex_sub rfl rfl) ?_
  refine JL_q (wants_none rfl) rfl (ex_assign rfl) ?_
  refine JL_q (wants_none rfl) rfl (ex_assign rfl) ?_
  refine JL_nil ?_
  refine N_then ?_
  refine J_loop' (S := (List Int) × Int × Int) (G := Unit) (F_impl_reversed_L1) (fun s5 _ => [(0, x3), (2, .int .i64 s5.2.1), (3, .int .i64 s5.2.2)]) (fun s5 _ => [.ow 2 x3 s5.1]) (r1, 0, (w64 ((r1.length : Int) - 1))) () ⟨rfl, rfl, rfl, trivial⟩ [0] rfl rfl (fun s5 g6 => ?_) (fun s5 g6 => ?_)
  · unfold F_impl_reversed_L1
    refine J_seq ?_
    refine J_seq ?_
    refine J_region ?_
    refine JL_q (wants_none rfl) rfl (ex_move rfl) ?_
    refine JL_q (wants_none rfl) rfl (ex_move rfl) ?_
    refine JL_q (wants_none rfl) rfl (ex_lss rfl rfl) ?_
    refine JL_nil ?_
    refine N_then ?_
    refine J_if rfl (fun h7 => ?_) (fun h7 => ?_)
    · refine J_skip ?_
      refine N_then ?_
      refine J_seq ?_
      refine J_block ?_
      refine J_draw [0] (by kernel_rfl) ?_
      refine JP_take (i := 0) [] [0] rfl (by kernel_rfl) (by kernel_rfl) (by kernel_rfl) rfl rfl (wants_none rfl) rfl (ex_move rfl) ?_
      refine JP_take (i := 1) [] [0] rfl (by kernel_rfl) (by kernel_rfl) (by kernel_rfl) rfl rfl (wants_none rfl) rfl (ex_move rfl) ?_
      refine JP_take (i := 2) [] [0] rfl (by kernel_rfl) (by kernel_rfl) (by kernel_rfl) rfl rfl (wants_none rfl) rfl (ex_move rfl) ?_
      refine JP_take (i := 3) [] [0] rfl (by kernel_rfl) (by kernel_rfl) (by kernel_rfl) rfl rfl (wants_none rfl) rfl (ex_move rfl) ?_
      refine JP_take (i := 4) [] [0] rfl (by kernel_rfl) (by kernel_rfl) (by kernel_rfl) rfl rfl (wants_none rfl) rfl (ex_move rfl) ?_
      refine JP_take (i := 5) [] [0] rfl (by kernel_rfl) (by kernel_rfl) (by kernel_rfl) rfl rfl (wants_none rfl) rfl (ex_move rfl) ?_
      refine JP_bnd fun y8 hy9 => ?_
      refine JP_ow_open (v := x3) 0 rfl hy9 ?_; rintro b10 cap11 rfl
      refine JP_take (i := 6) [] [0] rfl (by kernel_rfl) (by kernel_rfl) (by kernel_rfl) rfl rfl (wants_none rfl) rfl (ex_index_own Try.underlying35 ti_2 rfl rfl hy9 (by first | rfl | simp)) ?_
      refine JP_take (i := 8) [] [0] rfl (by kernel_rfl) (by kernel_rfl) (by kernel_rfl) rfl rfl (wants_none rfl) rfl (ex_move rfl) ?_
      refine JP_take (i := 9) [] [0] rfl (by kernel_rfl) (by kernel_rfl) (by kernel_rfl) rfl rfl (wants_none rfl) rfl (ex_move rfl) ?_
      refine JP_bnd fun y12 hy13 => ?_
      refine JP_take (i := 10) [] [0] rfl (by kernel_rfl) (by kernel_rfl) (by kernel_rfl) rfl rfl (wants_none rfl) rfl (ex_index_own Try.underlying35 ti_2 rfl rfl hy13 (by first | rfl | simp)) ?_
      refine JP_go [] [0] rfl rfl rfl (fun w15 h1_16 hp14 => ?_)
      refine JD_two (i := 7) (j := 11) (by kernel_rfl) ?_ ?_
      · refine JO_q rfl (wants_none rfl) rfl (ex_load_ow_int 0 ti_2 rfl rfl hy9) ?_
        refine JD_one (i := 11) (by kernel_rfl) ?_
        refine JO_q rfl (wants_none rfl) rfl (ex_load_ow_int 0 ti_2 rfl rfl hy13) ?_
        refine JD_bnd fun y19 hy20 => ?_
        refine JD_take (i := 12) hp14 rfl (by kernel_rfl) (by kernel_rfl) (by kernel_rfl) (wants_none rfl) rfl (ex_index_own Try.underlying35 ti_2 rfl rfl hy20 (by first | rfl | simp)) ?_
        refine JD_one (i := 13) (by kernel_rfl) ?_
        refine JO_sk rfl (wants_none rfl) (sk_store_ow 0 ti_2 rfl rfl rfl hy20 (fun w hh => (Rd.mk_int _ _ _))) (sub_owl 0 rfl) ?_
        refine JD_bnd fun y21 hy22 => ?_
        refine JD_one (i := 14) (by kernel_rfl) ?_
        refine JO_q rfl (wants_none rfl) rfl (ex_index_ow 0 Try.underlying35 ti_2 rfl rfl rfl hy22) ?_
        refine JD_one (i := 15) (by kernel_rfl) ?_
        refine JO_sk rfl (wants_none rfl) (sk_store_ow 0 ti_2 rfl rfl rfl hy22 (fun w hh => (Rd.mk_int _ _ _))) (sub_owl 0 rfl) ?_
        refine JD_done (by kernel_rfl) ?_
        refine N_block ?_
        refine N_then ?_
        refine J_region ?_
        refine JL_q (wants_none rfl) rfl (ex_move rfl) ?_
        refine JL_q (wants_none rfl) rfl (ex_add rfl rfl) ?_
        refine JL_q (wants_none rfl) rfl (ex_move rfl) ?_
        refine JL_q (wants_none rfl) rfl (ex_sub rfl rfl) ?_
        refine JL_q (wants_none rfl) rfl (ex_assign rfl) ?_
        refine JL_q (wants_none rfl) rfl (ex_assign rfl) ?_
        refine JL_nil ?_
        exact N_next' () ⟨rfl, rfl, rfl, trivial⟩ [0] rfl rfl
      · refine JO_q rfl (wants_none rfl) rfl (ex_load_ow_int 0 ti_2 rfl rfl hy13) ?_
        refine JD_one (i := 7) (by kernel_rfl) ?_
        refine JO_q rfl (wants_none rfl) rfl (ex_load_ow_int 0 ti_2 rfl rfl hy9) ?_
        refine JD_bnd fun y25 hy26 => ?_
        refine JD_take (i := 12) hp14 rfl (by kernel_rfl) (by kernel_rfl) (by kernel_rfl) (wants_none rfl) rfl (ex_index_own Try.underlying35 ti_2 rfl rfl hy26 (by first | rfl | simp)) ?_
        refine JD_one (i := 13) (by kernel_rfl) ?_
        refine JO_sk rfl (wants_none rfl) (sk_store_ow 0 ti_2 rfl rfl rfl hy26 (fun w hh => (Rd.mk_int _ _ _))) (sub_owl 0 rfl) ?_
        refine JD_bnd fun y27 hy28 => ?_
        refine JD_one (i := 14) (by kernel_rfl) ?_
        refine JO_q rfl (wants_none rfl) rfl (ex_index_ow 0 Try.underlying35 ti_2 rfl rfl rfl hy28) ?_
        refine JD_one (i := 15) (by kernel_rfl) ?_
        refine JO_sk rfl (wants_none rfl) (sk_store_ow 0 ti_2 rfl rfl rfl hy28 (fun w hh => (Rd.mk_int _ _ _))) (sub_owl 0 rfl) ?_
        refine JD_done (by kernel_rfl) ?_
        refine N_block ?_
        refine N_then ?_
        refine J_region ?_
        refine JL_q (wants_none rfl) rfl (ex_move rfl) ?_
        refine JL_q (wants_none rfl) rfl (ex_add rfl rfl) ?_
        refine JL_q (wants_none rfl) rfl (ex_move rfl) ?_
        refine JL_q (wants_none rfl) rfl (ex_sub rfl rfl) ?_
        refine JL_q (wants_none rfl) rfl (ex_assign rfl) ?_
        refine JL_q (wants_none rfl) rfl (ex_assign rfl) ?_
        refine JL_nil ?_
        exact N_next' () ⟨rfl, rfl, rfl, trivial⟩ [0] rfl rfl
    · refine J_exit ?_
      refine N_then_exit ?_
      exact N_break' () ⟨rfl, rfl, rfl, trivial⟩ [0] rfl rfl
  · refine N_inl0 (.inr rfl) hK4 rfl ?_
    refine JL_nil ?_
    refine N_then ?_
    refine J_seq ?_
    refine J_region ?_
    refine JL_q (wants_none rfl) rfl (ex_move rfl) ?_
    refine JL_q (wants_none rfl) rfl (ex_assign rfl) ?_
    refine JL_nil ?_
    refine N_then ?_
    refine J_ret ?_
    exact N_ret1 rfl (rv_tmp rfl) (fun w hh => ⟨x3, rfl, hh.sel [0] rfl⟩)

end Go.Proofs.Ytceimgjcikkadaa
