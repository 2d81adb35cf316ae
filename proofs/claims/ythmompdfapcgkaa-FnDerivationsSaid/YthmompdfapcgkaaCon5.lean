/-
  Each function of the program computes what its plain function says: printed by program. No condition.
-/
import Derived.Test.YthmompdfapcgkaaFn
import Derived.Test.YthmompdfapcgkaaInf
import Derived.Test.YthmompdfapcgkaaCon4
namespace Go.Proofs.Ythmompdfapcgkaa
open Go Go.Tc Go.Fn
set_option linter.unusedVariables false

set_option maxHeartbeats 40000000 in
theorem c_impl_joined (A : Nat → Prop) (w : World) (hA : ∀ k, A k → k < w.heap.size) (v0_ : Value) (p0 : (List (List Int))) (hp0 : Rd A w v0_ p0) (r : (List Int)) (hr : F_impl_joined p0 = some r) :
    Con Try.prog 107 [v0_] A w (fun x_ : Value => x_) (fun x_ => [.ow 2 x_ r]) := by
  refine Con_of (v := fun (r : (List Int)) (x_ : Value) => x_) (fs := fun r x_ => [.ow 2 x_ r]) Try.func107 rfl Try.ntmps107 rfl ((SH.start hA).start_rd rfl hp0) rfl ?_ hr
  unfold F_impl_joined
  refine J_seq ?_
  refine J_region ?_
  refine JL_q (wants_none rfl) rfl (ex_assign rfl) ?_
  refine JL_nil ?_
  refine N_then ?_
  refine J_seq ?_
  refine J_region ?_
  refine JL_q (wants_none rfl) rfl (ex_move rfl) ?_
  refine JL_bnd fun r1 hr2 => ?_
  refine JL_call (wants_none rfl) rfl Try.call120 rfl (Ca_self (fun _ => rfl) fun w hh => c_slices_Concat_Sint64_int64 _ w (fun _ hk => hk.elim) _ _ (hh.rd0 0 rfl) _ hr2) (fun x3 => ?_)
  refine JL_q (wants_none rfl) rfl (ex_assign rfl) ?_
  refine JL_nil ?_
  refine N_then ?_
  refine J_ret ?_
  exact N_ret1 rfl (rv_tmp rfl) (fun w hh => ⟨x3, rfl, hh.sel [0] rfl⟩)

set_option maxHeartbeats 40000000 in
theorem c_impl_replaced (A : Nat → Prop) (w : World) (hA : ∀ k, A k → k < w.heap.size) (v0_ : Value) (p0 : (List Int)) (hp0 : Rd A w v0_ p0) (p1 : Int) (p2 : Int) (v3_ : Value) (p3 : (List Int)) (hp3 : Rd A w v3_ p3) (r : (List Int)) (hr : F_impl_replaced p0 p1 p2 p3 = some r) :
    Con Try.prog 99 [v0_, .int .i64 p1, .int .i64 p2, v3_] A w (fun x_ : Value => x_) (fun x_ => [.ow 2 x_ r]) := by
  refine Con_of (v := fun (r : (List Int)) (x_ : Value) => x_) (fs := fun r x_ => [.ow 2 x_ r]) Try.func99 rfl Try.ntmps99 rfl (((SH.start hA).start_rd rfl hp0).start_rd rfl hp3) rfl ?_ hr
  unfold F_impl_replaced
  refine J_seq ?_
  refine J_region ?_
  refine JL_q (wants_none rfl) rfl (ex_assign rfl) ?_
  refine JL_nil ?_
  refine N_then ?_
  refine J_seq ?_
  refine J_draw [] (by kernel_rfl) ?_
  refine JP_take (i := 0) [0, 1] [] rfl (by kernel_rfl) (by kernel_rfl) (by kernel_rfl) rfl rfl (wants_none rfl) rfl (ex_move rfl) ?_
  refine JP_take (i := 1) [0, 1] [] rfl (by kernel_rfl) (by kernel_rfl) (by kernel_rfl) rfl rfl (wants_none rfl) rfl (ex_move rfl) ?_
  refine JP_bnd fun z1 hz2 => ?_
  refine JP_sq (i := 2) [] rfl (by kernel_rfl) (by kernel_rfl) (by kernel_rfl) rfl (wants_none rfl) rfl (sq_slice 1 Try.underlying23 ti_2 rfl rfl rfl rfl hz2) (fun v3 => ?_)
  refine JP_take (i := 3) [0, 1, 2] [] rfl (by kernel_rfl) (by kernel_rfl) (by kernel_rfl) rfl rfl (wants_none rfl) rfl (ex_move rfl) ?_
  refine JP_take (i := 4) [0, 1, 2] [] rfl (by kernel_rfl) (by kernel_rfl) (by kernel_rfl) rfl rfl (wants_none rfl) rfl (ex_move rfl) ?_
  refine JP_take (i := 5) [0, 1, 2] [] rfl (by kernel_rfl) (by kernel_rfl) (by kernel_rfl) rfl rfl (wants_none rfl) rfl (ex_move rfl) ?_
  refine JP_take (i := 6) [0, 1, 2] [] rfl (by kernel_rfl) (by kernel_rfl) (by kernel_rfl) rfl rfl (wants_none rfl) rfl (ex_move rfl) ?_
  refine JP_take (i := 7) [0, 1, 2] [] rfl (by kernel_rfl) (by kernel_rfl) (by kernel_rfl) rfl rfl (wants_none rfl) rfl (ex_add rfl rfl) ?_
  refine JP_bnd fun z4 hz5 => ?_
  refine JP_sq (i := 8) [] rfl (by kernel_rfl) (by kernel_rfl) (by kernel_rfl) rfl (wants_none rfl) rfl (sq_slice 2 Try.underlying23 ti_2 rfl rfl rfl rfl hz5) (fun v6 => ?_)
  refine JP_go [0, 1, 2, 3] [] rfl rfl rfl (fun w8 h1_9 hp7 => ?_)
  refine JD_one (i := 9) (by kernel_rfl) ?_
  refine JO_st rfl (wants_none rfl) rfl (st_buildSlice (vs := [v3, v3_, v6]) ([z1, p3, z4] : List (List Int)) Try.underlying33 ti_23 zi_23 rfl rfl rfl (fun w hh => ⟨(hh.rd 1 rfl), (hh.rd 2 rfl), (hh.rd 0 rfl), trivial⟩)) (fun _ hk => nomatch hk) (fun b10 => ?_)
  refine JD_bnd fun r11 hr12 => ?_
  refine JD_one (i := 10) (by kernel_rfl) ?_
  refine JO_call rfl (wants_none rfl) rfl Try.call107 rfl (Ca_self (fun _ => rfl) fun w hh => c_impl_joined _ w (fun _ hk => hk.elim) _ _ (hh.ow0 0 rfl) _ hr12) (fun x13 => ?_)
  refine JD_take (i := 11) hp7 rfl (by kernel_rfl) (by kernel_rfl) (by kernel_rfl) (wants_none rfl) rfl (ex_assign rfl) ?_
  refine JD_done (by kernel_rfl) ?_
  refine N_then ?_
  refine J_ret ?_
  exact N_ret1 rfl (rv_tmp rfl) (fun w hh => ⟨x13, rfl, hh.sel [0] rfl⟩)

set_option maxHeartbeats 40000000 in
theorem c_impl_fitting (A : Nat → Prop) (w : World) (hA : ∀ k, A k → k < w.heap.size) (v0_ : Value) (p0 : (List Int)) (hp0 : Rd A w v0_ p0) (r : (List Int) × Int) (hr : F_impl_fitting p0 = some r) :
    Con Try.prog 98 [v0_] A w (fun x_ : Value => .tuple #[x_, .int .i64 r.2]) (fun x_ => [.pr (Sub v0_ p0 x_ r.1)]) := by
  refine Con_of (v := fun (r : (List Int) × Int) (x_ : Value) => .tuple #[x_, .int .i64 r.2]) (fs := fun r x_ => [.pr (Sub v0_ p0 x_ r.1)]) Try.func98 rfl Try.ntmps98 rfl ((SH.start hA).start_rd rfl hp0) rfl ?_ hr
  unfold F_impl_fitting
  refine J_seq ?_
  refine J_region ?_
  refine JL_q (wants_none rfl) rfl (ex_assign rfl) ?_
  refine JL_q (wants_none rfl) rfl (ex_assign rfl) ?_
  refine JL_nil ?_
  refine N_then ?_
  refine J_seq ?_
  refine J_seq ?_
  refine J_region ?_
  refine JL_q (wants_none rfl) rfl (ex_move rfl) ?_
  refine JL_q (wants_none rfl) rfl (ex_len_rd 0 Try.underlying23 rfl rfl) ?_
  refine JL_q (wants_none rfl) rfl (ex_gtr rfl rfl) ?_
  refine JL_nil ?_
  refine N_then ?_
  refine J_if rfl (fun h1 => ?_) (fun h1 => ?_)
  · refine J_seq ?_
    refine J_region ?_
    refine JL_q (wants_none rfl) rfl (ex_assign rfl) ?_
    refine JL_q (wants_none rfl) rfl (ex_assign rfl) ?_
    refine JL_nil ?_
    refine N_then ?_
    refine J_ret ?_
    refine N_then_ret ?_
    refine N_ctx (fun w hh => hh.cons_pr (p := Sub v0_ p0 (.slice none 0 0) ([] : (List Int))) Sub.nil) ?_
    exact N_ret2 rfl (rv_tmp rfl) (rv_tmp rfl) (fun w hh => ⟨(.slice none 0 0 : Value), rfl, hh.sel [0] rfl⟩)
  · refine J_skip ?_
    refine N_then ?_
    refine J_seq ?_
    refine J_region ?_
    refine JL_q (wants_none rfl) rfl (ex_move rfl) ?_
    refine JL_q (wants_none rfl) rfl (ex_assign rfl) ?_
    refine JL_q (wants_none rfl) rfl (ex_assign rfl) ?_
    refine JL_nil ?_
    refine N_then ?_
    refine J_ret ?_
    refine N_ctx (fun w hh => hh.cons_pr (p := Sub v0_ p0 v0_ p0) Sub.refl) ?_
    exact N_ret2 rfl (rv_tmp rfl) (rv_tmp rfl) (fun w hh => ⟨v0_, rfl, hh.sel [0] rfl⟩)

set_option maxHeartbeats 40000000 in
theorem c_impl_movesOf (A : Nat → Prop) (w : World) (hA : ∀ k, A k → k < w.heap.size) (v0_ : Value) (p0 : (List GRewrite)) (hp0 : Rd A w v0_ p0) (v1_ : Value) (p1 : (List Int)) (hp1 : Rd A w v1_ p1) (r : (List Gmove) × Bool) (hr : F_impl_movesOf p0 p1 = some r) :
    Con Try.prog 64 [v0_, v1_] A w (fun x_ : Value × List Nat => .tuple #[x_.1, .bool r.2]) (fun x_ => [.od 100 x_.1 r.1 x_.2]) := by
  refine Con_of (v := fun (r : (List Gmove) × Bool) (x_ : Value × List Nat) => .tuple #[x_.1, .bool r.2]) (fs := fun r x_ => [.od 100 x_.1 r.1 x_.2]) Try.func64 rfl Try.ntmps64 rfl (((SH.start hA).start_rd rfl hp0).start_rd rfl hp1) rfl ?_ hr
  unfold F_impl_movesOf
  refine J_seq ?_
  refine J_region ?_
  refine JL_q (wants_none rfl) rfl (ex_assign rfl) ?_
  refine JL_q (wants_none rfl) rfl (ex_assign rfl) ?_
  refine JL_nil ?_
  refine N_then ?_
  refine J_seq ?_
  refine J_region ?_
  refine JL_st (wants_none rfl) rfl (st_buildSlice_od (vs := []) (B := ([] : List Nat)) ([] : List Gmove) [] Try.underlying108 ti_100 zi_100 rfl rfl rfl rfl rfl (fun w hh => dwv_nil)) (fun b1 => ?_)
  refine JL_q (wants_none rfl) rfl (ex_assign rfl) ?_
  refine JL_q (wants_none rfl) rfl (ex_assign rfl) ?_
  refine JL_nil ?_
  refine N_then ?_
  refine J_seq ?_
  refine J_seq ?_
  refine J_region ?_
  refine JL_q (wants_none rfl) rfl (ex_move rfl) ?_
  refine JL_q (wants_none rfl) rfl (ex_len_rd 2 Try.underlying42 rfl rfl) ?_
  refine JL_q (wants_none rfl) rfl (ex_move rfl) ?_
  refine JL_nil ?_
  refine N_then ?_
  refine J_loop' (S := (List Gmove) × Bool × Int) (G := Value × List Nat) (F_impl_movesOf_L1 p0 p1) (fun s2 g3 => [(1, v1_), (6, g3.1), (7, .bool s2.2.1), (15, v0_), (16, .int .i64 (p0.length : Int)), (17, .int .i64 s2.2.2)]) (fun s2 g3 => [.rd v1_ p1, .od 100 g3.1 s2.1 g3.2, .rd v0_ p0]) (([] : List Gmove), false, 0) ((.slice (some ⟨b1, 0, none⟩) 0 0), ([] : List Nat)) ⟨rfl, rfl, rfl, rfl, rfl, rfl, trivial⟩ [1, 0, 2] rfl rfl (fun s2 g3 => ?_) (fun s2 g3 => ?_)
  · obtain ⟨g3_0, g3_1⟩ := g3
    unfold F_impl_movesOf_L1
    refine J_seq ?_
    refine J_region ?_
    refine JL_q (wants_none rfl) rfl (ex_lss rfl rfl) ?_
    refine JL_nil ?_
    refine N_then ?_
    refine J_seq ?_
    refine J_if rfl (fun h4 => ?_) (fun h4 => ?_)
    · refine J_skip ?_
      refine N_then ?_
      refine J_seq ?_
      refine J_block ?_
      refine J_seq ?_
      refine J_region ?_
      refine JL_q (wants_none rfl) rfl (ex_move rfl) ?_
      refine JL_bnd fun y5 hy6 => ?_
      refine JL_st (wants_none rfl) rfl (st_index 2 Try.underlying42 ti_91 rfl rfl rfl hy6) (fun q7 => ?_)
      refine JL_st (wants_none rfl) rfl (st_load_pt_o 0 (GRewrite.opens _) ti_91 rfl rfl) (fun v8 => ?_)
      refine JL_st (wants_none rfl) rfl (st_alloc zi_91 rfl) (fun b9 => ?_)
      refine JL_q (wants_none rfl) rfl (ex_assign rfl) ?_
      refine JL_sk (wants_none rfl) (sk_store_bx' 0 ti_91 rfl rfl (fun w hh => (cv_aggs ⟨(hh.cv 1 rfl), (hh.cv 2 rfl), trivial⟩)) rfl rfl rfl rfl) ?_
      refine JL_nil ?_
      refine N_then ?_
      refine J_seq ?_
      refine J_region ?_
      refine JL_q (wants_none rfl) rfl (ex_move rfl) ?_
      refine JL_q (wants_none rfl) rfl (ex_fieldAddr fi_91_0 rfl rfl) ?_
      refine JL_q (wants_none rfl) rfl (ex_load_bx 0 ti_23 rfl rfl rfl) ?_
      refine JL_bnd fun r10 hr11 => ?_
      refine JL_call (wants_none rfl) rfl Try.call97 rfl (Ca_self (fun _ => rfl) fun w hh => c_impl_occurrences _ w (fun _ hk => hk.elim) _ _ (hh.rd0 4 rfl) _ _ (hh.rd0 1 rfl) _ hr11) (fun x12 => ?_)
      refine JL_q (wants_none rfl) rfl (ex_len_ow 0 Try.underlying23 rfl rfl) ?_
      refine JL_q (wants_none rfl) rfl (ex_move rfl) ?_
      refine JL_nil ?_
      refine N_then ?_
      refine J_loop' (S := (List Gmove) × Bool × Int) (G := Value × List Nat) (F_impl_movesOf_L2 p1 s2 y5 r10) (fun s13 g14 => [(1, v1_), (6, g14.1), (7, .bool s13.2.1), (8, .int .i64 s2.2.2), (9, .pointer (some ⟨b9, 0, none⟩)), (15, v0_), (16, .int .i64 (p0.length : Int)), (17, .int .i64 s2.2.2), (25, x12), (26, .int .i64 (r10.length : Int)), (27, .int .i64 s13.2.2)]) (fun s13 g14 => [.rd v1_ p1, .od 100 g14.1 s13.1 g14.2, .rd v8.1 y5.From, .rd v8.2 y5.To, .bx b9 91 [v8.1, v8.2], .rd v0_ p0, .ow 2 x12 r10]) (s2.1, s2.2.1, 0) (g3_0, g3_1) ⟨rfl, rfl, rfl, rfl, rfl, rfl, rfl, rfl, rfl, rfl, rfl, trivial⟩ [5, 6, 2, 3, 1, 7, 0] rfl rfl (fun s13 g14 => ?_) (fun s13 g14 => ?_)
      · obtain ⟨g14_0, g14_1⟩ := g14
        unfold F_impl_movesOf_L2
        refine J_seq ?_
        refine J_region ?_
        refine JL_q (wants_none rfl) rfl (ex_lss rfl rfl) ?_
        refine JL_nil ?_
        refine N_then ?_
        refine J_seq ?_
        refine J_if rfl (fun h15 => ?_) (fun h15 => ?_)
        · refine J_skip ?_
          refine N_then ?_
          refine J_seq ?_
          refine J_block ?_
          refine J_seq ?_
          refine J_region ?_
          refine JL_bnd fun y16 hy17 => ?_
          refine JL_ow_open (v := x12) 6 rfl hy17 ?_; rintro b18 cap19 rfl
          refine JL_q (wants_none rfl) rfl (ex_index_ow 6 Try.underlying23 ti_2 rfl rfl rfl hy17) ?_
          refine JL_q (wants_none rfl) rfl (ex_load_ow_int 6 ti_2 rfl rfl hy17) ?_
          refine JL_q (wants_none rfl) rfl (ex_assign rfl) ?_
          refine JL_nil ?_
          refine N_then ?_
          refine J_seq ?_
          refine J_region ?_
          refine JL_q (wants_none rfl) rfl (ex_move rfl) ?_
          refine JL_q (wants_none rfl) rfl (ex_move rfl) ?_
          refine JL_q (wants_none rfl) rfl (ex_fieldAddr fi_91_0 rfl rfl) ?_
          refine JL_q (wants_none rfl) rfl (ex_load_bx 4 ti_23 rfl rfl rfl) ?_
          refine JL_q (wants_none rfl) rfl (ex_len_rd 2 Try.underlying23 rfl rfl) ?_
          refine JL_q (wants_none rfl) rfl (ex_fieldAddr fi_91_1 rfl rfl) ?_
          refine JL_q (wants_none rfl) rfl (ex_load_bx 4 ti_23 rfl rfl rfl) ?_
          refine JL_bnd fun r21 hr22 => ?_
          refine JL_call (wants_none rfl) rfl Try.call99 rfl (Ca_self (fun _ => rfl) fun w hh => c_impl_replaced _ w (fun _ hk => hk.elim) _ _ (hh.rd0 0 rfl) _ _ _ _ (hh.rd0 3 rfl) _ hr22) (fun x23 => ?_)
          refine JL_bnd fun r24 hr25 => ?_
          refine JL_call (wants_none rfl) rfl Try.call98 rfl (Ca_self (fun _ => rfl) fun w hh => c_impl_fitting _ w (fun _ hk => hk.elim) _ _ (hh.ow0 0 rfl) _ hr25) (fun x26 => ?_)
          refine JL_ctx (fun w hh => hh.tokf 1 rfl rfl) ?_
          refine JL_ctx (fun w hh => hh.sub_rd 2 rfl (hh.pr 1 rfl)) ?_
          refine JL_ctx (fun w hh => hh.sub_tkn 1 rfl (hh.pr 2 rfl)) ?_
          refine JL_q (wants_none rfl) rfl (ex_move rfl) ?_
          refine JL_q (wants_none rfl) rfl (ex_extract rfl rfl) ?_
          refine JL_q (wants_none rfl) rfl (ex_extract rfl rfl) ?_
          refine JL_q (wants_none rfl) rfl (ex_assign rfl) ?_
          refine JL_q (wants_none rfl) rfl (ex_assign rfl) ?_
          refine JL_nil ?_
          refine N_then ?_
          refine J_seq ?_
          refine J_seq ?_
          refine J_region ?_
          refine JL_q (wants_none rfl) rfl (ex_move rfl) ?_
          refine JL_q (wants_none rfl) rfl (ex_neq rfl rfl) ?_
          refine JL_nil ?_
          refine N_then ?_
          refine J_if rfl (fun h27 => ?_) (fun h27 => ?_)
          · refine J_seq ?_
            refine J_region ?_
            refine JL_q (wants_none rfl) rfl (ex_assign rfl) ?_
            refine JL_nil ?_
            refine N_then ?_
            refine J_exit ?_
            refine N_then_exit ?_
            refine N_block_exit ?_
            refine N_then ?_
            refine J_region ?_
            refine JL_q (wants_none rfl) rfl (ex_add rfl rfl) ?_
            refine JL_q (wants_none rfl) rfl (ex_move rfl) ?_
            refine JL_nil ?_
            exact N_next' (g14_0, g14_1) ⟨rfl, rfl, rfl, rfl, rfl, rfl, rfl, rfl, rfl, rfl, rfl, trivial⟩ [4, 5, 6, 7, 8, 9, 10] rfl rfl
          · refine J_skip ?_
            refine N_then ?_
            refine J_region ?_
            refine JL_q (wants_none rfl) rfl (ex_move rfl) ?_
            refine JL_q (wants_none rfl) rfl (ex_move rfl) ?_
            refine JL_q (wants_none rfl) rfl (ex_move rfl) ?_
            refine JL_q (wants_none rfl) rfl (ex_move rfl) ?_
            refine JL_q (wants_none rfl) rfl (ex_build si_100 rfl (.cons fi_100_0 rfl rfl (.cons fi_100_1 rfl rfl (.cons fi_100_2 rfl rfl .nil))) (fun w hh => ⟨cv_int, cv_int, (hh.cv 0 rfl), trivial⟩)) ?_
            refine JL_st (wants_none rfl) rfl (st_buildSlice_od (vs := [.agg #[.int .i64 s2.2.2, .int .i64 y16, x26]]) (B := (((x23 : Value).ownBlock.toList ++ []) ++ [])) ([(⟨s2.2.2, y16, r24.1⟩ : Gmove)] : List Gmove) [1] Try.underlying108 ti_100 zi_100 rfl rfl rfl rfl rfl (fun w hh => (dwv_cons (Gmove.dw (hh.dw 1 rfl)) dwv_nil))) (fun b28 => ?_)
            refine JL_bnd fun z29 hz30 => ?_
            refine JL_st (wants_none rfl) rfl (st_append_od 6 0 Try.underlying108 ti_100 zi_100 rfl bi_100 rfl rfl rfl rfl rfl rfl hz30) (fun v31 => ?_)
            refine JL_q (wants_none rfl) rfl (ex_assign rfl) ?_
            refine JL_nil ?_
            refine N_block ?_
            refine N_then ?_
            refine J_region ?_
            refine JL_q (wants_none rfl) rfl (ex_add rfl rfl) ?_
            refine JL_q (wants_none rfl) rfl (ex_move rfl) ?_
            refine JL_nil ?_
            exact N_next' (v31, (g14_1 ++ (((x23 : Value).ownBlock.toList ++ []) ++ []))) ⟨rfl, rfl, rfl, rfl, rfl, rfl, rfl, rfl, rfl, rfl, rfl, trivial⟩ [5, 6, 7, 8, 9, 10, 11] rfl rfl
        · refine J_exit ?_
          refine N_then_exit ?_
          exact N_break' (g14_0, g14_1) ⟨rfl, rfl, rfl, rfl, rfl, rfl, rfl, rfl, rfl, rfl, rfl, trivial⟩ [0, 1, 2, 3, 4, 5, 6] rfl rfl
      · obtain ⟨g14_0, g14_1⟩ := g14
        refine N_block ?_
        refine N_then ?_
        refine J_region ?_
        refine JL_q (wants_none rfl) rfl (ex_add rfl rfl) ?_
        refine JL_q (wants_none rfl) rfl (ex_move rfl) ?_
        refine JL_nil ?_
        exact N_next' (g14_0, g14_1) ⟨rfl, rfl, rfl, rfl, rfl, rfl, trivial⟩ [0, 1, 5] rfl rfl
    · refine J_exit ?_
      refine N_then_exit ?_
      exact N_break' (g3_0, g3_1) ⟨rfl, rfl, rfl, rfl, rfl, rfl, trivial⟩ [0, 1, 2] rfl rfl
  · obtain ⟨g3_0, g3_1⟩ := g3
    refine N_then ?_
    refine J_seq ?_
    refine J_region ?_
    refine JL_q (wants_none rfl) rfl (ex_move rfl) ?_
    refine JL_q (wants_none rfl) rfl (ex_move rfl) ?_
    refine JL_q (wants_none rfl) rfl (ex_assign rfl) ?_
    refine JL_q (wants_none rfl) rfl (ex_assign rfl) ?_
    refine JL_nil ?_
    refine N_then ?_
    refine J_ret ?_
    exact N_ret2 rfl (rv_tmp rfl) (rv_tmp rfl) (fun w hh => ⟨(g3_0, g3_1), rfl, hh.sel [1] rfl⟩)

set_option maxHeartbeats 40000000 in
theorem c_impl_ReachWords (A : Nat → Prop) (w : World) (hA : ∀ k, A k → k < w.heap.size) (v0_ : Value) (p0 : (List GRewrite)) (hp0 : Rd A w v0_ p0) (v1_ : Value) (p1 : (List Int)) (hp1 : Rd A w v1_ p1) (p2 : Int) (r : (List (List Int)) × Bool × Int) (hr : F_impl_ReachWords p0 p1 p2 = some r) :
    Con Try.prog 24 [v0_, v1_, .int .i64 p2] A w (fun x_ : Value => .tuple #[x_, .bool r.2.1, .int .i64 r.2.2]) (fun x_ => [.ow 23 x_ r.1]) := by
  refine Con_of (v := fun (r : (List (List Int)) × Bool × Int) (x_ : Value) => .tuple #[x_, .bool r.2.1, .int .i64 r.2.2]) (fs := fun r x_ => [.ow 23 x_ r.1]) Try.func24 rfl Try.ntmps24 rfl (((SH.start hA).start_rd rfl hp0).start_rd rfl hp1) rfl ?_ hr
  unfold F_impl_ReachWords
  refine J_seq ?_
  refine J_region ?_
  refine JL_q (wants_none rfl) rfl (ex_assign rfl) ?_
  refine JL_q (wants_none rfl) rfl (ex_assign rfl) ?_
  refine JL_q (wants_none rfl) rfl (ex_assign rfl) ?_
  refine JL_nil ?_
  refine N_then ?_
  refine J_seq ?_
  refine J_seq ?_
  refine J_region ?_
  refine JL_q (wants_none rfl) rfl (ex_move rfl) ?_
  refine JL_q (wants_none rfl) rfl (ex_move rfl) ?_
  refine JL_q (wants_none rfl) rfl (ex_move rfl) ?_
  refine JL_st (wants_none rfl) rfl (st_buildSlice (vs := [v1_]) ([p1] : List (List Int)) Try.underlying33 ti_23 zi_23 rfl rfl rfl (fun w hh => ⟨(hh.rd 0 rfl), trivial⟩)) (fun b1 => ?_)
  refine JL_bnd fun r2 hr3 => ?_
  refine JL_call (wants_none rfl) rfl Try.call57 rfl (Ca_of0 fun w hh => c_impl_searchCode _ w (fun _ hk => hk.elim) _ _ (hh.rd0 2 rfl) _ _ _ (hh.ow0 0 rfl) _ hr3) (fun _ => ?_)
  refine JL_q (wants_none rfl) rfl (ex_assign rfl) ?_
  refine JL_nil ?_
  refine N_then ?_
  refine J_seq ?_
  refine J_region ?_
  refine JL_q (wants_none rfl) rfl (ex_move rfl) ?_
  refine JL_q (wants_none rfl) rfl (ex_neq rfl rfl) ?_
  refine JL_nil ?_
  refine N_then ?_
  refine J_if rfl (fun h4 => ?_) (fun h4 => ?_)
  · refine J_seq ?_
    refine J_region ?_
    refine JL_q (wants_none rfl) rfl (ex_move rfl) ?_
    refine JL_q (wants_none rfl) rfl (ex_assign rfl) ?_
    refine JL_q (wants_none rfl) rfl (ex_assign rfl) ?_
    refine JL_q (wants_none rfl) rfl (ex_assign rfl) ?_
    refine JL_nil ?_
    refine N_then ?_
    refine J_ret ?_
    refine N_then_ret ?_
    refine N_ctx (fun w hh => SH.od_nil (α := (List Int)) 23 hh) ?_
    refine N_ctx (fun w hh => hh.od_ow 0 rfl) ?_
    exact N_ret3 rfl (rv_tmp rfl) (rv_tmp rfl) (rv_tmp rfl) (fun w hh => ⟨(.slice none 0 0 : Value), rfl, hh.sel [0] rfl⟩)
  · refine J_skip ?_
    refine N_then ?_
    refine J_seq ?_
    refine J_region ?_
    refine JL_q (wants_none rfl) rfl (ex_move rfl) ?_
    refine JL_q (wants_none rfl) rfl (ex_move rfl) ?_
    refine JL_q (wants_none rfl) rfl (ex_move rfl) ?_
    refine JL_inline (wants_none rfl) rfl Try.call58 rfl Try.func58 rfl Try.ntmps58 rfl rfl (fun K_ hK5 => ?_)
    refine J_seq ?_
    refine J_region ?_
    refine JL_q (wants_none rfl) rfl (ex_assign rfl) ?_
    refine JL_nil ?_
    refine N_then ?_
    refine J_seq ?_
    refine J_region ?_
    refine JL_st (wants_none rfl) rfl (st_makeMap (κ := ByteArray) (ν := Int) (enc := Value.string) (venc := (Value.int .i64))) (fun b6 => ?_)
    refine JL_q (wants_none rfl) rfl (ex_build si_98 rfl (.cons fi_98_1 rfl rfl (.cons fi_98_2 rfl rfl .nil)) (fun w hh => ⟨cv_map, cv_bool, trivial⟩)) ?_
    refine JL_st (wants_none rfl) rfl (st_box' rfl (fun w hh => (cv_aggs ⟨cv_slice, cv_map, cv_bool, trivial⟩))) (fun b7 => ?_)
    refine JL_q (wants_none rfl) rfl (ex_assign rfl) ?_
    refine JL_nil ?_
    refine N_then ?_
    refine J_seq ?_
    refine J_region ?_
    refine JL_q (wants_none rfl) rfl (ex_move rfl) ?_
    refine JL_q (wants_none rfl) rfl (ex_move rfl) ?_
    refine JL_bnd fun r8 hr9 => ?_
    refine JL_call (wants_none rfl) rfl Try.call51 rfl (Ca_self (fun _ => rfl) fun w hh => c_slices_Clone_Sint64_int64 _ w (fun _ hk => hk.elim) _ _ (hh.rd0 3 rfl) _ hr9) (fun x10 => ?_)
    refine JL_q (wants_none rfl) rfl (ex_build si_100 rfl (.cons fi_100_2 rfl rfl .nil) (fun w hh => ⟨(hh.cv_ow 0 rfl), trivial⟩)) ?_
    refine JL_q (wants_none rfl) rfl (ex_buildN [(0, .agg #[.int .i64 0, .int .i64 0, x10], [.int .i64 0, .int .i64 0, x10]), (1, .int .i64 (-1), [.int .i64 (-1)])] si_102 rfl (.cons fi_102_0 rfl rfl rfl (.cons fi_102_1 rfl rfl rfl .nil)) (fun w hh => ⟨(cv_aggs ⟨cv_int, cv_int, (hh.cv_ow 0 rfl), trivial⟩), cv_int, trivial⟩)) ?_
    refine JL_inline (wants_none rfl) rfl Try.call91 rfl Try.func91 rfl Try.ntmps91 rfl rfl (fun K_ hK11 => ?_)
    refine J_seq ?_
    refine J_region ?_
    refine JL_st (wants_none rfl) rfl (st_box' rfl (fun w hh => (cv_aggs ⟨cv_int, cv_int, (hh.cv_ow 0 rfl), cv_int, trivial⟩))) (fun b12 => ?_)
    refine JL_nil ?_
    refine N_then ?_
    refine J_seq ?_
    refine J_region ?_
    refine JL_q (wants_none rfl) rfl (ex_fieldAddr fi_102_0 rfl rfl) ?_
    refine JL_q (wants_none rfl) rfl (ex_fieldAddr fi_100_2 rfl rfl) ?_
    refine JL_q (wants_none rfl) rfl (ex_load_bx 0 ti_23 rfl rfl rfl) ?_
    refine JL_bnd fun r13 hr14 => ?_
    refine JL_call (wants_none rfl) rfl Try.call59 rfl (Ca_of0 fun w hh => c_impl_keyOf _ w (fun _ hk => hk.elim) _ _ (hh.ow0 1 rfl) _ hr14) (fun _ => ?_)
    refine JL_q (wants_none rfl) rfl (ex_assign rfl) ?_
    refine JL_nil ?_
    refine N_then ?_
    refine J_seq ?_
    refine J_region ?_
    refine JL_q (wants_none rfl) rfl (ex_move rfl) ?_
    refine JL_q (wants_none rfl) rfl (ex_nilCheck rfl) ?_
    refine JL_q (wants_none rfl) rfl (ex_fieldAddr fi_98_1 rfl rfl) ?_
    refine JL_q (wants_none rfl) rfl (ex_load_bx 2 ti_96 rfl rfl rfl) ?_
    refine JL_q (wants_none rfl) rfl (ex_move rfl) ?_
    refine JL_q (wants_none rfl) rfl (ex_lookup_ok (x := r13) (z := 0) 3 key_9 Try.underlying96 zi_3 rfl rfl rfl rfl rfl) ?_
    refine JL_q (wants_none rfl) rfl (ex_move rfl) ?_
    refine JL_q (wants_none rfl) rfl (ex_extract rfl rfl) ?_
    refine JL_q (wants_none rfl) rfl (ex_extract rfl rfl) ?_
    refine JL_q (wants_none rfl) rfl (ex_assign rfl) ?_
    refine JL_q (wants_none rfl) rfl (ex_assign rfl) ?_
    refine JL_nil ?_
    refine N_then ?_
    refine J_seq ?_
    refine J_region ?_
    refine JL_q (wants_none rfl) rfl (ex_move rfl) ?_
    refine JL_q (wants_none rfl) rfl (ex_not rfl) ?_
    refine JL_nil ?_
    refine N_then ?_
    refine J_if_true rfl (by rw [show (((mget ([] : List (ByteArray × Int)) r13).isSome)) = false from rfl]; rfl) ?_
    refine J_seq ?_
    refine J_draw [3] (by kernel_rfl) ?_
    refine JP_take (i := 0) [0, 1, 2, 4, 5, 6] [3] rfl (by kernel_rfl) (by kernel_rfl) (by kernel_rfl) rfl rfl (wants_none rfl) rfl (ex_move rfl) ?_
    refine JP_take (i := 1) [0, 1, 2, 4, 5, 6] [3] rfl (by kernel_rfl) (by kernel_rfl) (by kernel_rfl) rfl rfl (wants_none rfl) rfl (ex_nilCheck rfl) ?_
    refine JP_take (i := 2) [0, 1, 2, 4, 5, 6] [3] rfl (by kernel_rfl) (by kernel_rfl) (by kernel_rfl) rfl rfl (wants_none rfl) rfl (ex_fieldAddr fi_98_1 rfl rfl) ?_
    refine JP_take (i := 3) [0, 1, 2, 4, 5, 6] [3] rfl (by kernel_rfl) (by kernel_rfl) (by kernel_rfl) rfl rfl (wants_none rfl) rfl (ex_load_bx 2 ti_96 rfl rfl rfl) ?_
    refine JP_take (i := 4) [0, 1, 2, 4, 5, 6] [3] rfl (by kernel_rfl) (by kernel_rfl) (by kernel_rfl) rfl rfl (wants_none rfl) rfl (ex_move rfl) ?_
    refine JP_take (i := 5) [0, 1, 2, 4, 5, 6] [3] rfl (by kernel_rfl) (by kernel_rfl) (by kernel_rfl) rfl rfl (wants_none rfl) rfl (ex_move rfl) ?_
    refine JP_take (i := 6) [0, 1, 2, 4, 5, 6] [3] rfl (by kernel_rfl) (by kernel_rfl) (by kernel_rfl) rfl rfl (wants_none rfl) rfl (ex_nilCheck rfl) ?_
    refine JP_take (i := 7) [0, 1, 2, 4, 5, 6] [3] rfl (by kernel_rfl) (by kernel_rfl) (by kernel_rfl) rfl rfl (wants_none rfl) rfl (ex_fieldAddr fi_98_0 rfl rfl) ?_
    refine JP_take (i := 8) [0, 1, 2, 4, 5, 6] [3] rfl (by kernel_rfl) (by kernel_rfl) (by kernel_rfl) rfl rfl (wants_none rfl) rfl (ex_load_bx 2 ti_95 rfl rfl rfl) ?_
    refine JP_take (i := 9) [0, 1, 2, 4, 5, 6] [3] rfl (by kernel_rfl) (by kernel_rfl) (by kernel_rfl) rfl rfl (wants_none rfl) rfl (ex_len_nil Try.underlying95 rfl) ?_
    refine JP_go [0, 1, 2, 4, 5, 6] [3] rfl rfl rfl (fun w16 h1_17 hp15 => ?_)
    refine JD_one (i := 10) (by kernel_rfl) ?_
    refine JO_sk rfl (wants_none rfl) (sk_mapUpdate (x := r13) (y := ((0 : Nat) : Int)) 3 key_9 Try.underlying96 rfl rfl rfl rfl rfl rfl rfl rfl) (sub_mp 0 rfl) ?_
    refine JD_done (by kernel_rfl) ?_
    refine N_then ?_
    refine J_draw [2] (by kernel_rfl) ?_
    refine JP_take (i := 0) [0, 1, 3, 4, 5, 6] [2] rfl (by kernel_rfl) (by kernel_rfl) (by kernel_rfl) rfl rfl (wants_none rfl) rfl (ex_move rfl) ?_
    refine JP_take (i := 1) [0, 1, 3, 4, 5, 6] [2] rfl (by kernel_rfl) (by kernel_rfl) (by kernel_rfl) rfl rfl (wants_none rfl) rfl (ex_move rfl) ?_
    refine JP_take (i := 2) [0, 1, 3, 4, 5, 6] [2] rfl (by kernel_rfl) (by kernel_rfl) (by kernel_rfl) rfl rfl (wants_none rfl) rfl (ex_nilCheck rfl) ?_
    refine JP_take (i := 3) [0, 1, 3, 4, 5, 6] [2] rfl (by kernel_rfl) (by kernel_rfl) (by kernel_rfl) rfl rfl (wants_none rfl) rfl (ex_fieldAddr fi_98_0 rfl rfl) ?_
    refine JP_take (i := 5) [0, 1, 3, 4, 5, 6] [2] rfl (by kernel_rfl) (by kernel_rfl) (by kernel_rfl) rfl rfl (wants_none rfl) rfl (ex_load_bx_agg 0 ti_102 rfl rfl rfl rfl) ?_
    refine JP_go [0, 1, 3, 4, 5, 6] [2] rfl rfl rfl (fun w19 h1_20 hp18 => ?_)
    refine JD_two (i := 4) (j := 6) (by kernel_rfl) ?_ ?_
    · refine JO_q rfl (wants_none rfl) rfl (ex_load_bx 2 ti_95 rfl rfl rfl) ?_
      refine JD_one (i := 6) (by kernel_rfl) ?_
      refine JO_ctx (fun w hh => hh.tokf 1 rfl rfl) (tokf_owns (i := 1) rfl) ?_
      refine JO_st rfl (wants_none rfl) rfl (st_buildSlice_od (vs := [.agg #[.int .i64 0, .int .i64 0, x10, .int .i64 (-1)]]) (B := (((x10 : Value).ownBlock.toList ++ []) ++ [])) ([(⟨0, 0, r8, (-1)⟩ : Gfound)] : List Gfound) [0] Try.underlying95 ti_102 zi_102 rfl rfl rfl rfl rfl (fun w hh => (dwv_cons (Gfound.dw (hh.dw 0 rfl)) dwv_nil))) (fun _ hk => nomatch hk) (fun b21 => ?_)
      refine JD_bnd fun z22 hz23 => ?_
      refine JD_one (i := 7) (by kernel_rfl) ?_
      refine JO_ctx (fun w hh => SH.od_nil (α := Gfound) 102 hh) (fun _ hb => hb) ?_
      refine JO_st rfl (wants_none rfl) rfl (st_append_od 0 1 Try.underlying95 ti_102 zi_102 rfl bi_102 rfl rfl rfl rfl rfl rfl hz23) (fun _ hk => absurd hk List.not_mem_nil) (fun v24 => ?_)
      refine JD_take (i := 8) hp18 rfl (by kernel_rfl) (by kernel_rfl) (by kernel_rfl) (wants_none rfl) rfl (ex_nilCheck rfl) ?_
      refine JD_take (i := 9) hp18 rfl (by kernel_rfl) (by kernel_rfl) (by kernel_rfl) (wants_none rfl) rfl (ex_fieldAddr fi_98_0 rfl rfl) ?_
      refine JD_one (i := 10) (by kernel_rfl) ?_
      refine JO_sk rfl (wants_none rfl) (sk_store_bx' 5 ti_95 rfl rfl (fun w hh => (hh.cv_od 0 rfl)) rfl rfl rfl rfl) (sub_bx 0 rfl) ?_
      refine JD_done (by kernel_rfl) ?_
      refine N_inl0 (.inr rfl) hK11 rfl ?_
      refine JL_nil ?_
      refine N_then ?_
      refine J_seq ?_
      refine J_seq ?_
      refine J_region ?_
      refine JL_q (wants_none rfl) rfl (ex_assign rfl) ?_
      refine JL_nil ?_
      refine N_then ?_
      refine J_ctx (fun w hh => hh.od_ow 0 rfl) ?_
      refine J_loop' (S := (List Gfound) × List (ByteArray × Int) × Bool × Int) (G := Value) (F_impl_ReachWords_L1 p0 p2) (fun s25 g26 => [(0, v0_), (2, .int .i64 p2), (7, .pointer (some ⟨b7, 0, none⟩)), (8, .int .i64 s25.2.2.2)]) (fun s25 g26 => [.rd v0_ p0, .ow 102 g26 s25.1, mpf Value.string (Value.int .i64) b6 s25.2.1, .bx b7 98 [g26, .map (some b6), .bool s25.2.2.1]]) (z22, (mput ([] : List (ByteArray × Int)) r13 ((0 : Nat) : Int)), true, 0) v24 ⟨rfl, rfl, rfl, rfl, trivial⟩ [9, 0, 6, 5] rfl rfl (fun s25 g26 => ?_) (fun s25 g26 => ?_)
      · unfold F_impl_ReachWords_L1
        refine J_seq ?_
        refine J_seq ?_
        refine J_region ?_
        refine JL_q (wants_none rfl) rfl (ex_move rfl) ?_
        refine JL_q (wants_none rfl) rfl (ex_move rfl) ?_
        refine JL_q (wants_none rfl) rfl (ex_nilCheck rfl) ?_
        refine JL_q (wants_none rfl) rfl (ex_fieldAddr fi_98_0 rfl rfl) ?_
        refine JL_q (wants_none rfl) rfl (ex_load_bx 3 ti_95 rfl rfl rfl) ?_
        refine JL_q (wants_none rfl) rfl (ex_len_ow 1 Try.underlying95 rfl rfl) ?_
        refine JL_q (wants_none rfl) rfl (ex_lss rfl rfl) ?_
        refine JL_nil ?_
        refine N_then ?_
        refine J_if rfl (fun h27 => ?_) (fun h27 => ?_)
        · refine J_skip ?_
          refine N_then ?_
          refine J_seq ?_
          refine J_block ?_
          refine J_seq ?_
          refine J_seq ?_
          refine J_region ?_
          refine JL_q (wants_none rfl) rfl (ex_move rfl) ?_
          refine JL_q (wants_none rfl) rfl (ex_move rfl) ?_
          refine JL_q (wants_none rfl) rfl (ex_eql rfl rfl) ?_
          refine JL_nil ?_
          refine N_then ?_
          refine J_if rfl (fun h28 => ?_) (fun h28 => ?_)
          · refine J_seq ?_
            refine J_region ?_
            refine JL_q (wants_none rfl) rfl (ex_move rfl) ?_
            refine JL_q (wants_none rfl) rfl (ex_nilCheck rfl) ?_
            refine JL_q (wants_none rfl) rfl (ex_fieldAddr fi_98_2 rfl rfl) ?_
            refine JL_sk (wants_none rfl) (sk_store_bx' 3 ti_4 rfl rfl (fun w hh => cv_bool) rfl rfl rfl rfl) ?_
            refine JL_nil ?_
            refine N_then ?_
            refine J_exit ?_
            refine N_then_exit ?_
            refine N_block_exit_ne rfl ?_
            refine N_then_exit ?_
            exact N_break' g26 ⟨rfl, rfl, rfl, rfl, trivial⟩ [0, 1, 2, 3] rfl rfl
          · refine J_skip ?_
            refine N_then ?_
            refine J_seq ?_
            refine J_region ?_
            refine JL_q (wants_none rfl) rfl (ex_move rfl) ?_
            refine JL_q (wants_none rfl) rfl (ex_move rfl) ?_
            refine JL_q (wants_none rfl) rfl (ex_nilCheck rfl) ?_
            refine JL_q (wants_none rfl) rfl (ex_fieldAddr fi_98_0 rfl rfl) ?_
            refine JL_q (wants_none rfl) rfl (ex_load_bx 3 ti_95 rfl rfl rfl) ?_
            refine JL_q (wants_none rfl) rfl (ex_move rfl) ?_
            refine JL_bnd fun y29 hy30 => ?_
            refine JL_ow_open (v := g26) 1 rfl hy30 ?_; rintro b31 cap32 rfl
            refine JL_q (wants_none rfl) rfl (ex_index_ow 1 Try.underlying95 ti_102 rfl rfl rfl hy30) ?_
            refine JL_q (wants_none rfl) rfl (ex_fieldAddr fi_102_0 rfl rfl) ?_
            refine JL_q (wants_none rfl) rfl (ex_fieldAddr fi_100_2 rfl rfl) ?_
            refine JL_st (wants_none rfl) rfl (st_load_ow_part 1 (opens_sl _) (Part.trans (Gfound.at_move _) (Gmove.at_word _)) rfl ti_23 rfl rfl hy30) (fun v33 => ?_)
            refine JL_bnd fun r34 hr35 => ?_
            refine JL_call (wants_none rfl) rfl Try.call64 rfl (Ca_self (fun _ => rfl) fun w hh => c_impl_movesOf _ w (fun _ hk => hk.elim) _ _ (hh.rd0 1 rfl) _ _ (hh.rd0 0 rfl) _ hr35) (fun x36 => ?_)
            obtain ⟨x36_0, x36_1⟩ := x36
            refine JL_q (wants_none rfl) rfl (ex_move rfl) ?_
            refine JL_q (wants_none rfl) rfl (ex_extract rfl rfl) ?_
            refine JL_q (wants_none rfl) rfl (ex_extract rfl rfl) ?_
            refine JL_q (wants_none rfl) rfl (ex_assign rfl) ?_
            refine JL_q (wants_none rfl) rfl (ex_assign rfl) ?_
            refine JL_nil ?_
            refine N_then ?_
            refine J_seq ?_
            refine J_cut' (S' := Bool) (G' := Unit) (fun s37 _ => [(0, v0_), (2, .int .i64 p2), (7, .pointer (some ⟨b7, 0, none⟩)), (8, .int .i64 s25.2.2.2), (9, x36_0)]) (fun s37 _ => [.rd v0_ p0, .ow 102 (.slice (some ⟨b31, 0, none⟩) s25.1.length cap32) s25.1, mpf Value.string (Value.int .i64) b6 s25.2.1, .bx b7 98 [(.slice (some ⟨b31, 0, none⟩) s25.1.length cap32), .map (some b6), .bool s37], .od 100 x36_0 r34.1 x36_1]) ?_ (fun s37 g38 => ?_)
            · refine J_region ?_
              refine JL_q (wants_none rfl) rfl (ex_move rfl) ?_
              refine JL_q (wants_none rfl) rfl (ex_move rfl) ?_
              refine JL_q (wants_none rfl) rfl (ex_nilCheck rfl) ?_
              refine JL_q (wants_none rfl) rfl (ex_fieldAddr fi_98_2 rfl rfl) ?_
              refine JL_q (wants_none rfl) rfl (ex_load_bx 5 ti_4 rfl rfl rfl) ?_
              refine JL_q (wants_none rfl) rfl (ex_move rfl) ?_
              refine JL_cond (fun h39 => ?_) (fun h39 => ?_)
              · refine JL_q (wants_some rfl rfl rfl h39) rfl (ex_move rfl) ?_
                refine JL_q (wants_some rfl rfl rfl h39) rfl (ex_not rfl) ?_
                refine JL_q (wants_none rfl) rfl (ex_pick_true rfl h39 rfl) ?_
                refine JL_q (wants_none rfl) rfl (ex_nilCheck rfl) ?_
                refine JL_q (wants_none rfl) rfl (ex_fieldAddr fi_98_2 rfl rfl) ?_
                refine JL_sk (wants_none rfl) (sk_store_bx' 5 ti_4 rfl rfl (fun w hh => cv_bool) rfl rfl rfl rfl) ?_
                refine JL_nil ?_
                exact N_meet' () ⟨rfl, rfl, rfl, rfl, rfl, trivial⟩ [2, 3, 4, 5, 0] rfl rfl
              · refine JL_passed rfl rfl rfl h39 ?_
                refine JL_passed rfl rfl rfl h39 ?_
                refine JL_q (wants_none rfl) rfl (ex_pick_false rfl h39 rfl) ?_
                refine JL_q (wants_none rfl) rfl (ex_nilCheck rfl) ?_
                refine JL_q (wants_none rfl) rfl (ex_fieldAddr fi_98_2 rfl rfl) ?_
                refine JL_sk (wants_none rfl) (sk_store_bx' 5 ti_4 rfl rfl (fun w hh => cv_bool) rfl rfl rfl rfl) ?_
                refine JL_nil ?_
                exact N_meet' () ⟨rfl, rfl, rfl, rfl, rfl, trivial⟩ [2, 3, 4, 5, 0] rfl rfl
            · refine N_then ?_
              refine J_seq ?_
              refine J_region ?_
              refine JL_q (wants_none rfl) rfl (ex_move rfl) ?_
              refine JL_q (wants_none rfl) rfl (ex_od 4 rfl (ex_len_ow 4 Try.underlying108 rfl rfl)) ?_
              refine JL_q (wants_none rfl) rfl (ex_move rfl) ?_
              refine JL_nil ?_
              refine N_then ?_
              refine J_loop' (S := (List Gfound) × List (ByteArray × Int) × Int) (G := Value) (F_impl_ReachWords_L2 s25 r34) (fun s40 g41 => [(0, v0_), (2, .int .i64 p2), (7, .pointer (some ⟨b7, 0, none⟩)), (8, .int .i64 s25.2.2.2), (62, x36_0), (63, .int .i64 (r34.1.length : Int)), (64, .int .i64 s40.2.2)]) (fun s40 g41 => [.rd v0_ p0, .ow 102 g41 s40.1, mpf Value.string (Value.int .i64) b6 s40.2.1, .bx b7 98 [g41, .map (some b6), .bool s37], .od 100 x36_0 r34.1 x36_1]) (s25.1, s25.2.1, 0) (.slice (some ⟨b31, 0, none⟩) s25.1.length cap32) ⟨rfl, rfl, rfl, rfl, rfl, rfl, rfl, trivial⟩ [0, 1, 2, 3, 4] rfl rfl (fun s40 g41 => ?_) (fun s40 g41 => ?_)
              · unfold F_impl_ReachWords_L2
                refine J_seq ?_
                refine J_region ?_
                refine JL_q (wants_none rfl) rfl (ex_lss rfl rfl) ?_
                refine JL_nil ?_
                refine N_then ?_
                refine J_seq ?_
                refine J_if rfl (fun h42 => ?_) (fun h42 => ?_)
                · refine J_skip ?_
                  refine N_then ?_
                  refine J_seq ?_
                  refine J_block ?_
                  refine J_seq ?_
                  refine J_region ?_
                  refine JL_bnd fun y43 hy44 => ?_
                  refine JL_od_open (v := x36_0) 4 rfl hy44 ?_; rintro b45 cap46 rfl
                  refine JL_q (wants_none rfl) rfl (ex_od 4 rfl (ex_index_ow 4 Try.underlying108 ti_100 rfl rfl rfl hy44)) ?_
                  refine JL_st (wants_none rfl) rfl (st_od 4 rfl (st_load_ow_o 4 (Gmove.opens _) ti_100 rfl rfl hy44) (fun _ => rfl)) (fun v47 => ?_)
                  refine JL_st (wants_none rfl) rfl (st_alloc zi_100 rfl) (fun b48 => ?_)
                  refine JL_sk (wants_none rfl) (sk_store_bx' 0 ti_100 rfl rfl (fun w hh => (cv_aggs ⟨cv_int, cv_int, (hh.cv 1 rfl), trivial⟩)) rfl rfl rfl rfl) ?_
                  refine JL_nil ?_
                  refine N_then ?_
                  refine J_seq ?_
                  refine J_region ?_
                  refine JL_q (wants_none rfl) rfl (ex_move rfl) ?_
                  refine JL_q (wants_none rfl) rfl (ex_load_bx_agg 0 ti_100 rfl rfl rfl rfl) ?_
                  refine JL_q (wants_none rfl) rfl (ex_move rfl) ?_
                  refine JL_q (wants_none rfl) rfl (ex_buildN [(0, .agg #[.int .i64 y43.rule, .int .i64 y43.at_, v47], [.int .i64 y43.rule, .int .i64 y43.at_, v47]), (1, .int .i64 s25.2.2.2, [.int .i64 s25.2.2.2])] si_102 rfl (.cons fi_102_0 rfl rfl rfl (.cons fi_102_1 rfl rfl rfl .nil)) (fun w hh => ⟨(cv_aggs ⟨cv_int, cv_int, (hh.cv 1 rfl), trivial⟩), cv_int, trivial⟩)) ?_
                  refine JL_inline (wants_none rfl) rfl Try.call91 rfl Try.func91 rfl Try.ntmps91 rfl rfl (fun K_ hK49 => ?_)
                  refine J_seq ?_
                  refine J_region ?_
                  refine JL_st (wants_none rfl) rfl (st_box' rfl (fun w hh => (cv_aggs ⟨cv_int, cv_int, (hh.cv 1 rfl), cv_int, trivial⟩))) (fun b50 => ?_)
                  refine JL_nil ?_
                  refine N_then ?_
                  refine J_seq ?_
                  refine J_region ?_
                  refine JL_q (wants_none rfl) rfl (ex_fieldAddr fi_102_0 rfl rfl) ?_
                  refine JL_q (wants_none rfl) rfl (ex_fieldAddr fi_100_2 rfl rfl) ?_
                  refine JL_q (wants_none rfl) rfl (ex_load_bx 0 ti_23 rfl rfl rfl) ?_
                  refine JL_bnd fun r51 hr52 => ?_
                  refine JL_call (wants_none rfl) rfl Try.call59 rfl (Ca_of0 fun w hh => c_impl_keyOf _ w (fun _ hk => hk.elim) _ _ (hh.rd0 2 rfl) _ hr52) (fun _ => ?_)
                  refine JL_q (wants_none rfl) rfl (ex_assign rfl) ?_
                  refine JL_nil ?_
                  refine N_then ?_
                  refine J_seq ?_
                  refine J_region ?_
                  refine JL_q (wants_none rfl) rfl (ex_move rfl) ?_
                  refine JL_q (wants_none rfl) rfl (ex_nilCheck rfl) ?_
                  refine JL_q (wants_none rfl) rfl (ex_fieldAddr fi_98_1 rfl rfl) ?_
                  refine JL_q (wants_none rfl) rfl (ex_load_bx 6 ti_96 rfl rfl rfl) ?_
                  refine JL_q (wants_none rfl) rfl (ex_move rfl) ?_
                  refine JL_q (wants_none rfl) rfl (ex_lookup_ok (x := r51) (z := 0) 5 key_9 Try.underlying96 zi_3 rfl rfl rfl rfl rfl) ?_
                  refine JL_q (wants_none rfl) rfl (ex_move rfl) ?_
                  refine JL_q (wants_none rfl) rfl (ex_extract rfl rfl) ?_
                  refine JL_q (wants_none rfl) rfl (ex_extract rfl rfl) ?_
                  refine JL_q (wants_none rfl) rfl (ex_assign rfl) ?_
                  refine JL_q (wants_none rfl) rfl (ex_assign rfl) ?_
                  refine JL_nil ?_
                  refine N_then ?_
                  refine J_seq ?_
                  refine J_region ?_
                  refine JL_q (wants_none rfl) rfl (ex_move rfl) ?_
                  refine JL_q (wants_none rfl) rfl (ex_not rfl) ?_
                  refine JL_nil ?_
                  refine N_then ?_
                  refine J_if rfl (fun h53 => ?_) (fun h53 => ?_)
                  · refine J_seq ?_
                    refine J_draw [5] (by kernel_rfl) ?_
                    refine JP_take (i := 0) [0, 1, 2, 3, 4, 6, 7] [5] rfl (by kernel_rfl) (by kernel_rfl) (by kernel_rfl) rfl rfl (wants_none rfl) rfl (ex_move rfl) ?_
                    refine JP_take (i := 1) [0, 1, 2, 3, 4, 6, 7] [5] rfl (by kernel_rfl) (by kernel_rfl) (by kernel_rfl) rfl rfl (wants_none rfl) rfl (ex_nilCheck rfl) ?_
                    refine JP_take (i := 2) [0, 1, 2, 3, 4, 6, 7] [5] rfl (by kernel_rfl) (by kernel_rfl) (by kernel_rfl) rfl rfl (wants_none rfl) rfl (ex_fieldAddr fi_98_1 rfl rfl) ?_
                    refine JP_take (i := 3) [0, 1, 2, 3, 4, 6, 7] [5] rfl (by kernel_rfl) (by kernel_rfl) (by kernel_rfl) rfl rfl (wants_none rfl) rfl (ex_load_bx 5 ti_96 rfl rfl rfl) ?_
                    refine JP_take (i := 4) [0, 1, 2, 3, 4, 6, 7] [5] rfl (by kernel_rfl) (by kernel_rfl) (by kernel_rfl) rfl rfl (wants_none rfl) rfl (ex_move rfl) ?_
                    refine JP_take (i := 5) [0, 1, 2, 3, 4, 6, 7] [5] rfl (by kernel_rfl) (by kernel_rfl) (by kernel_rfl) rfl rfl (wants_none rfl) rfl (ex_move rfl) ?_
                    refine JP_take (i := 6) [0, 1, 2, 3, 4, 6, 7] [5] rfl (by kernel_rfl) (by kernel_rfl) (by kernel_rfl) rfl rfl (wants_none rfl) rfl (ex_nilCheck rfl) ?_
                    refine JP_take (i := 7) [0, 1, 2, 3, 4, 6, 7] [5] rfl (by kernel_rfl) (by kernel_rfl) (by kernel_rfl) rfl rfl (wants_none rfl) rfl (ex_fieldAddr fi_98_0 rfl rfl) ?_
                    refine JP_take (i := 8) [0, 1, 2, 3, 4, 6, 7] [5] rfl (by kernel_rfl) (by kernel_rfl) (by kernel_rfl) rfl rfl (wants_none rfl) rfl (ex_load_bx 5 ti_95 rfl rfl rfl) ?_
                    refine JP_take (i := 9) [0, 1, 2, 3, 4, 6, 7] [5] rfl (by kernel_rfl) (by kernel_rfl) (by kernel_rfl) rfl rfl (wants_none rfl) rfl (ex_len_ow 4 Try.underlying95 rfl rfl) ?_
                    refine JP_go [0, 1, 2, 3, 4, 6, 7] [5] rfl rfl rfl (fun w55 h1_56 hp54 => ?_)
                    refine JD_one (i := 10) (by kernel_rfl) ?_
                    refine JO_sk rfl (wants_none rfl) (sk_mapUpdate (x := r51) (y := (s40.1.length : Int)) 5 key_9 Try.underlying96 rfl rfl rfl rfl rfl rfl rfl rfl) (sub_mp 0 rfl) ?_
                    refine JD_done (by kernel_rfl) ?_
                    refine N_then ?_
                    refine J_draw [4, 6] (by kernel_rfl) ?_
                    refine JP_take (i := 0) [0, 1, 2, 3, 5, 7] [4, 6] rfl (by kernel_rfl) (by kernel_rfl) (by kernel_rfl) rfl rfl (wants_none rfl) rfl (ex_move rfl) ?_
                    refine JP_take (i := 1) [0, 1, 2, 3, 5, 7] [4, 6] rfl (by kernel_rfl) (by kernel_rfl) (by kernel_rfl) rfl rfl (wants_none rfl) rfl (ex_move rfl) ?_
                    refine JP_take (i := 2) [0, 1, 2, 3, 5, 7] [4, 6] rfl (by kernel_rfl) (by kernel_rfl) (by kernel_rfl) rfl rfl (wants_none rfl) rfl (ex_nilCheck rfl) ?_
                    refine JP_take (i := 3) [0, 1, 2, 3, 5, 7] [4, 6] rfl (by kernel_rfl) (by kernel_rfl) (by kernel_rfl) rfl rfl (wants_none rfl) rfl (ex_fieldAddr fi_98_0 rfl rfl) ?_
                    refine JP_take (i := 5) [0, 1, 2, 3, 5, 7] [4, 6] rfl (by kernel_rfl) (by kernel_rfl) (by kernel_rfl) rfl rfl (wants_none rfl) rfl (ex_load_bx_agg 0 ti_102 rfl rfl rfl rfl) ?_
                    refine JP_go [0, 1, 2, 3, 5, 7] [4, 6] rfl rfl rfl (fun w58 h1_59 hp57 => ?_)
                    refine JD_two (i := 4) (j := 6) (by kernel_rfl) ?_ ?_
                    · refine JO_q rfl (wants_none rfl) rfl (ex_load_bx 6 ti_95 rfl rfl rfl) ?_
                      refine JD_one (i := 6) (by kernel_rfl) ?_
                      refine JO_st rfl (wants_none rfl) rfl (st_buildSlice (vs := [.agg #[.int .i64 y43.rule, .int .i64 y43.at_, v47, .int .i64 s25.2.2.2]]) ([(⟨y43.rule, y43.at_, y43.word, s25.2.2.2⟩ : Gfound)] : List Gfound) Try.underlying95 ti_102 zi_102 rfl rfl rfl (fun w hh => ⟨(Gfound.rdmk (Rd.mk_int _ _ _) (Rd.mk_int _ _ _) (hh.rd 2 rfl) (Rd.mk_int _ _ _)), trivial⟩)) (fun _ hk => nomatch hk) (fun b60 => ?_)
                      refine JD_bnd fun z61 hz62 => ?_
                      refine JD_one (i := 7) (by kernel_rfl) ?_
                      refine JO_st rfl (wants_none rfl) rfl (st_append 5 Try.underlying95 ti_102 zi_102 rfl bi_102 rfl rfl rfl rfl (fun w hh => hh.src_ow 0 rfl) hz62) (sub_ow 0 rfl) (fun v63 => ?_)
                      refine JD_take (i := 8) hp57 rfl (by kernel_rfl) (by kernel_rfl) (by kernel_rfl) (wants_none rfl) rfl (ex_nilCheck rfl) ?_
                      refine JD_take (i := 9) hp57 rfl (by kernel_rfl) (by kernel_rfl) (by kernel_rfl) (wants_none rfl) rfl (ex_fieldAddr fi_98_0 rfl rfl) ?_
                      refine JD_one (i := 10) (by kernel_rfl) ?_
                      refine JO_sk rfl (wants_none rfl) (sk_store_bx' 7 ti_95 rfl rfl (fun w hh => (hh.cv_ow 5 rfl)) rfl rfl rfl rfl) (sub_bx 1 rfl) ?_
                      refine JD_done (by kernel_rfl) ?_
                      refine N_inl0 (.inr rfl) hK49 rfl ?_
                      refine JL_nil ?_
                      refine N_then ?_
                      refine J_seq ?_
                      refine J_region ?_
                      refine JL_q (wants_none rfl) rfl (ex_move rfl) ?_
                      refine JL_q (wants_none rfl) rfl (ex_nilCheck rfl) ?_
                      refine JL_q (wants_none rfl) rfl (ex_fieldAddr fi_98_0 rfl rfl) ?_
                      refine JL_q (wants_none rfl) rfl (ex_load_bx 7 ti_95 rfl rfl rfl) ?_
                      refine JL_q (wants_none rfl) rfl (ex_len_ow 5 Try.underlying95 rfl rfl) ?_
                      refine JL_q (wants_none rfl) rfl (ex_eql rfl rfl) ?_
                      refine JL_nil ?_
                      refine N_then ?_
                      refine J_if rfl (fun h64 => ?_) (fun h64 => ?_)
                      · refine J_seq ?_
                        refine J_region ?_
                        refine JL_q (wants_none rfl) rfl (ex_move rfl) ?_
                        refine JL_q (wants_none rfl) rfl (ex_nilCheck rfl) ?_
                        refine JL_q (wants_none rfl) rfl (ex_fieldAddr fi_98_2 rfl rfl) ?_
                        refine JL_sk (wants_none rfl) (sk_store_bx' 7 ti_4 rfl rfl (fun w hh => cv_bool) rfl rfl rfl rfl) ?_
                        refine JL_nil ?_
                        refine N_then ?_
                        refine J_seq ?_
                        refine J_region ?_
                        refine JL_q (wants_none rfl) rfl (ex_move rfl) ?_
                        refine JL_q (wants_none rfl) rfl (ex_assign rfl) ?_
                        refine JL_nil ?_
                        refine N_then ?_
                        refine J_ret ?_
                        refine N_block_ret ?_
                        refine N_then_ret ?_
                        refine N_round_ret ?_
                        refine N_block_ret ?_
                        refine N_then_ret ?_
                        refine N_round_reti ?_
                        refine N_then_ret ?_
                        refine N_inl1 hK5 rfl (rv_tmp rfl) ?_
                        refine JL_st (wants_none rfl) rfl (st_buildSlice_od (vs := []) (B := ([] : List Nat)) ([] : List (List Int)) [] Try.underlying33 ti_23 zi_23 rfl rfl rfl rfl rfl (fun w hh => dwv_nil)) (fun b65 => ?_)
                        refine JL_q (wants_none rfl) rfl (ex_assign rfl) ?_
                        refine JL_q (wants_none rfl) rfl (ex_assign rfl) ?_
                        refine JL_nil ?_
                        refine N_then ?_
                        refine J_seq ?_
                        refine J_seq ?_
                        refine J_region ?_
                        refine JL_q (wants_none rfl) rfl (ex_move rfl) ?_
                        refine JL_q (wants_none rfl) rfl (ex_nilCheck rfl) ?_
                        refine JL_q (wants_none rfl) rfl (ex_fieldAddr fi_98_0 rfl rfl) ?_
                        refine JL_q (wants_none rfl) rfl (ex_load_bx 8 ti_95 rfl rfl rfl) ?_
                        refine JL_q (wants_none rfl) rfl (ex_len_ow 6 Try.underlying95 rfl rfl) ?_
                        refine JL_q (wants_none rfl) rfl (ex_move rfl) ?_
                        refine JL_nil ?_
                        refine N_then ?_
                        refine J_ctx (fun w hh => hh.od_ow 0 rfl) ?_
                        refine J_loop' (S := (List (List Int)) × Int) (G := Value) (F_impl_ReachWords_L3 z61) (fun s66 g67 => [(10, .pointer (some ⟨b7, 0, none⟩)), (11, g67), (30, v63), (31, .int .i64 (z61.length : Int)), (32, .int .i64 s66.2)]) (fun s66 g67 => [.ow 102 v63 z61, mpf Value.string (Value.int .i64) b6 (mput s40.2.1 r51 (s40.1.length : Int)), .bx b7 98 [v63, .map (some b6), .bool false], .ow 23 g67 s66.1]) (([] : List (List Int)), 0) (.slice (some ⟨b65, 0, none⟩) 0 0) ⟨rfl, rfl, rfl, rfl, rfl, trivial⟩ [6, 7, 8, 0] rfl rfl (fun s66 g67 => ?_) (fun s66 g67 => ?_)
                        · unfold F_impl_ReachWords_L3
                          refine J_seq ?_
                          refine J_region ?_
                          refine JL_q (wants_none rfl) rfl (ex_lss rfl rfl) ?_
                          refine JL_nil ?_
                          refine N_then ?_
                          refine J_seq ?_
                          refine J_if rfl (fun h68 => ?_) (fun h68 => ?_)
                          · refine J_skip ?_
                            refine N_then ?_
                            refine J_seq ?_
                            refine J_block ?_
                            refine J_seq ?_
                            refine J_region ?_
                            refine JL_bnd fun y69 hy70 => ?_
                            refine JL_ow_open (v := v63) 0 rfl hy70 ?_; rintro b71 cap72 rfl
                            refine JL_q (wants_none rfl) rfl (ex_index_ow 0 Try.underlying95 ti_102 rfl rfl rfl hy70) ?_
                            refine JL_st (wants_none rfl) rfl (st_load_ow_o 0 (Gfound.opens _) ti_102 rfl rfl hy70) (fun v73 => ?_)
                            refine JL_st (wants_none rfl) rfl (st_alloc zi_102 rfl) (fun b74 => ?_)
                            refine JL_sk (wants_none rfl) (sk_store_bx' 0 ti_102 rfl rfl (fun w hh => (cv_aggs ⟨cv_int, cv_int, (hh.cv 1 rfl), cv_int, trivial⟩)) rfl rfl rfl rfl) ?_
                            refine JL_nil ?_
                            refine N_then ?_
                            refine J_region ?_
                            refine JL_q (wants_none rfl) rfl (ex_move rfl) ?_
                            refine JL_q (wants_none rfl) rfl (ex_fieldAddr fi_102_0 rfl rfl) ?_
                            refine JL_q (wants_none rfl) rfl (ex_fieldAddr fi_100_2 rfl rfl) ?_
                            refine JL_q (wants_none rfl) rfl (ex_load_bx 0 ti_23 rfl rfl rfl) ?_
                            refine JL_st (wants_none rfl) rfl (st_buildSlice (vs := [v73]) ([y69.move_word] : List (List Int)) Try.underlying33 ti_23 zi_23 rfl rfl rfl (fun w hh => ⟨(hh.rd 1 rfl), trivial⟩)) (fun b75 => ?_)
                            refine JL_bnd fun z76 hz77 => ?_
                            refine JL_st (wants_none rfl) rfl (st_append 6 Try.underlying33 ti_23 zi_23 rfl bi_23 rfl rfl rfl rfl (fun w hh => hh.src_ow 0 rfl) hz77) (fun v78 => ?_)
                            refine JL_q (wants_none rfl) rfl (ex_assign rfl) ?_
                            refine JL_nil ?_
                            refine N_block ?_
                            refine N_then ?_
                            refine J_region ?_
                            refine JL_q (wants_none rfl) rfl (ex_add rfl rfl) ?_
                            refine JL_q (wants_none rfl) rfl (ex_move rfl) ?_
                            refine JL_nil ?_
                            exact N_next' v78 ⟨rfl, rfl, rfl, rfl, rfl, trivial⟩ [3, 4, 5, 6] rfl rfl
                          · refine J_exit ?_
                            refine N_then_exit ?_
                            exact N_break' g67 ⟨rfl, rfl, rfl, rfl, rfl, trivial⟩ [0, 1, 2, 3] rfl rfl
                        · refine N_then ?_
                          refine J_seq ?_
                          refine J_draw [] (by kernel_rfl) ?_
                          refine JP_take (i := 0) [0, 1, 2, 3] [] rfl (by kernel_rfl) (by kernel_rfl) (by kernel_rfl) rfl rfl (wants_none rfl) rfl (ex_move rfl) ?_
                          refine JP_take (i := 1) [0, 1, 2, 3] [] rfl (by kernel_rfl) (by kernel_rfl) (by kernel_rfl) rfl rfl (wants_none rfl) rfl (ex_move rfl) ?_
                          refine JP_take (i := 2) [0, 1, 2, 3] [] rfl (by kernel_rfl) (by kernel_rfl) (by kernel_rfl) rfl rfl (wants_none rfl) rfl (ex_nilCheck rfl) ?_
                          refine JP_take (i := 3) [0, 1, 2, 3] [] rfl (by kernel_rfl) (by kernel_rfl) (by kernel_rfl) rfl rfl (wants_none rfl) rfl (ex_fieldAddr fi_98_2 rfl rfl) ?_
                          refine JP_take (i := 4) [0, 1, 2, 3] [] rfl (by kernel_rfl) (by kernel_rfl) (by kernel_rfl) rfl rfl (wants_none rfl) rfl (ex_load_bx 2 ti_4 rfl rfl rfl) ?_
                          refine JP_take (i := 5) [0, 1, 2, 3] [] rfl (by kernel_rfl) (by kernel_rfl) (by kernel_rfl) rfl rfl (wants_none rfl) rfl (ex_assign rfl) ?_
                          refine JP_take (i := 6) [0, 1, 2, 3] [] rfl (by kernel_rfl) (by kernel_rfl) (by kernel_rfl) rfl rfl (wants_none rfl) rfl (ex_assign rfl) ?_
                          refine JP_take (i := 7) [0, 1, 2, 3] [] rfl (by kernel_rfl) (by kernel_rfl) (by kernel_rfl) rfl rfl (wants_none rfl) rfl (ex_assign rfl) ?_
                          refine JP_go [] [] rfl rfl rfl (fun _ _ _ => ?_)
                          refine JD_done (by kernel_rfl) ?_
                          refine N_then ?_
                          refine J_ret ?_
                          exact N_ret3 rfl (rv_tmp rfl) (rv_tmp rfl) (rv_tmp rfl) (fun w hh => ⟨g67, rfl, hh.sel [3] rfl⟩)
                      · refine J_skip ?_
                        refine N_block ?_
                        refine N_then ?_
                        refine J_region ?_
                        refine JL_q (wants_none rfl) rfl (ex_add rfl rfl) ?_
                        refine JL_q (wants_none rfl) rfl (ex_move rfl) ?_
                        refine JL_nil ?_
                        exact N_next' v63 ⟨rfl, rfl, rfl, rfl, rfl, rfl, rfl, trivial⟩ [4, 5, 6, 7, 8] rfl rfl
                    · refine JO_st rfl (wants_none rfl) rfl (st_buildSlice (vs := [.agg #[.int .i64 y43.rule, .int .i64 y43.at_, v47, .int .i64 s25.2.2.2]]) ([(⟨y43.rule, y43.at_, y43.word, s25.2.2.2⟩ : Gfound)] : List Gfound) Try.underlying95 ti_102 zi_102 rfl rfl rfl (fun w hh => ⟨(Gfound.rdmk (Rd.mk_int _ _ _) (Rd.mk_int _ _ _) (hh.rd 2 rfl) (Rd.mk_int _ _ _)), trivial⟩)) (fun _ hk => nomatch hk) (fun b79 => ?_)
                      refine JD_one (i := 4) (by kernel_rfl) ?_
                      refine JO_q rfl (wants_none rfl) rfl (ex_load_bx 7 ti_95 rfl rfl rfl) ?_
                      refine JD_bnd fun z80 hz81 => ?_
                      refine JD_one (i := 7) (by kernel_rfl) ?_
                      refine JO_st rfl (wants_none rfl) rfl (st_append 5 Try.underlying95 ti_102 zi_102 rfl bi_102 rfl rfl rfl rfl (fun w hh => hh.src_ow 0 rfl) hz81) (sub_ow 0 rfl) (fun v82 => ?_)
                      refine JD_take (i := 8) hp57 rfl (by kernel_rfl) (by kernel_rfl) (by kernel_rfl) (wants_none rfl) rfl (ex_nilCheck rfl) ?_
                      refine JD_take (i := 9) hp57 rfl (by kernel_rfl) (by kernel_rfl) (by kernel_rfl) (wants_none rfl) rfl (ex_fieldAddr fi_98_0 rfl rfl) ?_
                      refine JD_one (i := 10) (by kernel_rfl) ?_
                      refine JO_sk rfl (wants_none rfl) (sk_store_bx' 7 ti_95 rfl rfl (fun w hh => (hh.cv_ow 5 rfl)) rfl rfl rfl rfl) (sub_bx 1 rfl) ?_
                      refine JD_done (by kernel_rfl) ?_
                      refine N_inl0 (.inr rfl) hK49 rfl ?_
                      refine JL_nil ?_
                      refine N_then ?_
                      refine J_seq ?_
                      refine J_region ?_
                      refine JL_q (wants_none rfl) rfl (ex_move rfl) ?_
                      refine JL_q (wants_none rfl) rfl (ex_nilCheck rfl) ?_
                      refine JL_q (wants_none rfl) rfl (ex_fieldAddr fi_98_0 rfl rfl) ?_
                      refine JL_q (wants_none rfl) rfl (ex_load_bx 7 ti_95 rfl rfl rfl) ?_
                      refine JL_q (wants_none rfl) rfl (ex_len_ow 5 Try.underlying95 rfl rfl) ?_
                      refine JL_q (wants_none rfl) rfl (ex_eql rfl rfl) ?_
                      refine JL_nil ?_
                      refine N_then ?_
                      refine J_if rfl (fun h83 => ?_) (fun h83 => ?_)
                      · refine J_seq ?_
                        refine J_region ?_
                        refine JL_q (wants_none rfl) rfl (ex_move rfl) ?_
                        refine JL_q (wants_none rfl) rfl (ex_nilCheck rfl) ?_
                        refine JL_q (wants_none rfl) rfl (ex_fieldAddr fi_98_2 rfl rfl) ?_
                        refine JL_sk (wants_none rfl) (sk_store_bx' 7 ti_4 rfl rfl (fun w hh => cv_bool) rfl rfl rfl rfl) ?_
                        refine JL_nil ?_
                        refine N_then ?_
                        refine J_seq ?_
                        refine J_region ?_
                        refine JL_q (wants_none rfl) rfl (ex_move rfl) ?_
                        refine JL_q (wants_none rfl) rfl (ex_assign rfl) ?_
                        refine JL_nil ?_
                        refine N_then ?_
                        refine J_ret ?_
                        refine N_block_ret ?_
                        refine N_then_ret ?_
                        refine N_round_ret ?_
                        refine N_block_ret ?_
                        refine N_then_ret ?_
                        refine N_round_reti ?_
                        refine N_then_ret ?_
                        refine N_inl1 hK5 rfl (rv_tmp rfl) ?_
                        refine JL_st (wants_none rfl) rfl (st_buildSlice_od (vs := []) (B := ([] : List Nat)) ([] : List (List Int)) [] Try.underlying33 ti_23 zi_23 rfl rfl rfl rfl rfl (fun w hh => dwv_nil)) (fun b84 => ?_)
                        refine JL_q (wants_none rfl) rfl (ex_assign rfl) ?_
                        refine JL_q (wants_none rfl) rfl (ex_assign rfl) ?_
                        refine JL_nil ?_
                        refine N_then ?_
                        refine J_seq ?_
                        refine J_seq ?_
                        refine J_region ?_
                        refine JL_q (wants_none rfl) rfl (ex_move rfl) ?_
                        refine JL_q (wants_none rfl) rfl (ex_nilCheck rfl) ?_
                        refine JL_q (wants_none rfl) rfl (ex_fieldAddr fi_98_0 rfl rfl) ?_
                        refine JL_q (wants_none rfl) rfl (ex_load_bx 8 ti_95 rfl rfl rfl) ?_
                        refine JL_q (wants_none rfl) rfl (ex_len_ow 6 Try.underlying95 rfl rfl) ?_
                        refine JL_q (wants_none rfl) rfl (ex_move rfl) ?_
                        refine JL_nil ?_
                        refine N_then ?_
                        refine J_ctx (fun w hh => hh.od_ow 0 rfl) ?_
                        refine J_loop' (S := (List (List Int)) × Int) (G := Value) (F_impl_ReachWords_L3 z80) (fun s85 g86 => [(10, .pointer (some ⟨b7, 0, none⟩)), (11, g86), (30, v82), (31, .int .i64 (z80.length : Int)), (32, .int .i64 s85.2)]) (fun s85 g86 => [.ow 102 v82 z80, mpf Value.string (Value.int .i64) b6 (mput s40.2.1 r51 (s40.1.length : Int)), .bx b7 98 [v82, .map (some b6), .bool false], .ow 23 g86 s85.1]) (([] : List (List Int)), 0) (.slice (some ⟨b84, 0, none⟩) 0 0) ⟨rfl, rfl, rfl, rfl, rfl, trivial⟩ [6, 7, 8, 0] rfl rfl (fun s85 g86 => ?_) (fun s85 g86 => ?_)
                        · unfold F_impl_ReachWords_L3
                          refine J_seq ?_
                          refine J_region ?_
                          refine JL_q (wants_none rfl) rfl (ex_lss rfl rfl) ?_
                          refine JL_nil ?_
                          refine N_then ?_
                          refine J_seq ?_
                          refine J_if rfl (fun h87 => ?_) (fun h87 => ?_)
                          · refine J_skip ?_
                            refine N_then ?_
                            refine J_seq ?_
                            refine J_block ?_
                            refine J_seq ?_
                            refine J_region ?_
                            refine JL_bnd fun y88 hy89 => ?_
                            refine JL_ow_open (v := v82) 0 rfl hy89 ?_; rintro b90 cap91 rfl
                            refine JL_q (wants_none rfl) rfl (ex_index_ow 0 Try.underlying95 ti_102 rfl rfl rfl hy89) ?_
                            refine JL_st (wants_none rfl) rfl (st_load_ow_o 0 (Gfound.opens _) ti_102 rfl rfl hy89) (fun v92 => ?_)
                            refine JL_st (wants_none rfl) rfl (st_alloc zi_102 rfl) (fun b93 => ?_)
                            refine JL_sk (wants_none rfl) (sk_store_bx' 0 ti_102 rfl rfl (fun w hh => (cv_aggs ⟨cv_int, cv_int, (hh.cv 1 rfl), cv_int, trivial⟩)) rfl rfl rfl rfl) ?_
                            refine JL_nil ?_
                            refine N_then ?_
                            refine J_region ?_
                            refine JL_q (wants_none rfl) rfl (ex_move rfl) ?_
                            refine JL_q (wants_none rfl) rfl (ex_fieldAddr fi_102_0 rfl rfl) ?_
                            refine JL_q (wants_none rfl) rfl (ex_fieldAddr fi_100_2 rfl rfl) ?_
                            refine JL_q (wants_none rfl) rfl (ex_load_bx 0 ti_23 rfl rfl rfl) ?_
                            refine JL_st (wants_none rfl) rfl (st_buildSlice (vs := [v92]) ([y88.move_word] : List (List Int)) Try.underlying33 ti_23 zi_23 rfl rfl rfl (fun w hh => ⟨(hh.rd 1 rfl), trivial⟩)) (fun b94 => ?_)
                            refine JL_bnd fun z95 hz96 => ?_
                            refine JL_st (wants_none rfl) rfl (st_append 6 Try.underlying33 ti_23 zi_23 rfl bi_23 rfl rfl rfl rfl (fun w hh => hh.src_ow 0 rfl) hz96) (fun v97 => ?_)
                            refine JL_q (wants_none rfl) rfl (ex_assign rfl) ?_
                            refine JL_nil ?_
                            refine N_block ?_
                            refine N_then ?_
                            refine J_region ?_
                            refine JL_q (wants_none rfl) rfl (ex_add rfl rfl) ?_
                            refine JL_q (wants_none rfl) rfl (ex_move rfl) ?_
                            refine JL_nil ?_
                            exact N_next' v97 ⟨rfl, rfl, rfl, rfl, rfl, trivial⟩ [3, 4, 5, 6] rfl rfl
                          · refine J_exit ?_
                            refine N_then_exit ?_
                            exact N_break' g86 ⟨rfl, rfl, rfl, rfl, rfl, trivial⟩ [0, 1, 2, 3] rfl rfl
                        · refine N_then ?_
                          refine J_seq ?_
                          refine J_draw [] (by kernel_rfl) ?_
                          refine JP_take (i := 0) [0, 1, 2, 3] [] rfl (by kernel_rfl) (by kernel_rfl) (by kernel_rfl) rfl rfl (wants_none rfl) rfl (ex_move rfl) ?_
                          refine JP_take (i := 1) [0, 1, 2, 3] [] rfl (by kernel_rfl) (by kernel_rfl) (by kernel_rfl) rfl rfl (wants_none rfl) rfl (ex_move rfl) ?_
                          refine JP_take (i := 2) [0, 1, 2, 3] [] rfl (by kernel_rfl) (by kernel_rfl) (by kernel_rfl) rfl rfl (wants_none rfl) rfl (ex_nilCheck rfl) ?_
                          refine JP_take (i := 3) [0, 1, 2, 3] [] rfl (by kernel_rfl) (by kernel_rfl) (by kernel_rfl) rfl rfl (wants_none rfl) rfl (ex_fieldAddr fi_98_2 rfl rfl) ?_
                          refine JP_take (i := 4) [0, 1, 2, 3] [] rfl (by kernel_rfl) (by kernel_rfl) (by kernel_rfl) rfl rfl (wants_none rfl) rfl (ex_load_bx 2 ti_4 rfl rfl rfl) ?_
                          refine JP_take (i := 5) [0, 1, 2, 3] [] rfl (by kernel_rfl) (by kernel_rfl) (by kernel_rfl) rfl rfl (wants_none rfl) rfl (ex_assign rfl) ?_
                          refine JP_take (i := 6) [0, 1, 2, 3] [] rfl (by kernel_rfl) (by kernel_rfl) (by kernel_rfl) rfl rfl (wants_none rfl) rfl (ex_assign rfl) ?_
                          refine JP_take (i := 7) [0, 1, 2, 3] [] rfl (by kernel_rfl) (by kernel_rfl) (by kernel_rfl) rfl rfl (wants_none rfl) rfl (ex_assign rfl) ?_
                          refine JP_go [] [] rfl rfl rfl (fun _ _ _ => ?_)
                          refine JD_done (by kernel_rfl) ?_
                          refine N_then ?_
                          refine J_ret ?_
                          exact N_ret3 rfl (rv_tmp rfl) (rv_tmp rfl) (rv_tmp rfl) (fun w hh => ⟨g86, rfl, hh.sel [3] rfl⟩)
                      · refine J_skip ?_
                        refine N_block ?_
                        refine N_then ?_
                        refine J_region ?_
                        refine JL_q (wants_none rfl) rfl (ex_add rfl rfl) ?_
                        refine JL_q (wants_none rfl) rfl (ex_move rfl) ?_
                        refine JL_nil ?_
                        exact N_next' v82 ⟨rfl, rfl, rfl, rfl, rfl, rfl, rfl, trivial⟩ [4, 5, 6, 7, 8] rfl rfl
                  · refine J_skip ?_
                    refine N_inl0 (.inr rfl) hK49 rfl ?_
                    refine JL_nil ?_
                    refine N_then ?_
                    refine J_seq ?_
                    refine J_region ?_
                    refine JL_q (wants_none rfl) rfl (ex_move rfl) ?_
                    refine JL_q (wants_none rfl) rfl (ex_nilCheck rfl) ?_
                    refine JL_q (wants_none rfl) rfl (ex_fieldAddr fi_98_0 rfl rfl) ?_
                    refine JL_q (wants_none rfl) rfl (ex_load_bx 6 ti_95 rfl rfl rfl) ?_
                    refine JL_q (wants_none rfl) rfl (ex_len_ow 4 Try.underlying95 rfl rfl) ?_
                    refine JL_q (wants_none rfl) rfl (ex_eql rfl rfl) ?_
                    refine JL_nil ?_
                    refine N_then ?_
                    refine J_if rfl (fun h98 => ?_) (fun h98 => ?_)
                    · refine J_seq ?_
                      refine J_region ?_
                      refine JL_q (wants_none rfl) rfl (ex_move rfl) ?_
                      refine JL_q (wants_none rfl) rfl (ex_nilCheck rfl) ?_
                      refine JL_q (wants_none rfl) rfl (ex_fieldAddr fi_98_2 rfl rfl) ?_
                      refine JL_sk (wants_none rfl) (sk_store_bx' 6 ti_4 rfl rfl (fun w hh => cv_bool) rfl rfl rfl rfl) ?_
                      refine JL_nil ?_
                      refine N_then ?_
                      refine J_seq ?_
                      refine J_region ?_
                      refine JL_q (wants_none rfl) rfl (ex_move rfl) ?_
                      refine JL_q (wants_none rfl) rfl (ex_assign rfl) ?_
                      refine JL_nil ?_
                      refine N_then ?_
                      refine J_ret ?_
                      refine N_block_ret ?_
                      refine N_then_ret ?_
                      refine N_round_ret ?_
                      refine N_block_ret ?_
                      refine N_then_ret ?_
                      refine N_round_reti ?_
                      refine N_then_ret ?_
                      refine N_inl1 hK5 rfl (rv_tmp rfl) ?_
                      refine JL_st (wants_none rfl) rfl (st_buildSlice_od (vs := []) (B := ([] : List Nat)) ([] : List (List Int)) [] Try.underlying33 ti_23 zi_23 rfl rfl rfl rfl rfl (fun w hh => dwv_nil)) (fun b99 => ?_)
                      refine JL_q (wants_none rfl) rfl (ex_assign rfl) ?_
                      refine JL_q (wants_none rfl) rfl (ex_assign rfl) ?_
                      refine JL_nil ?_
                      refine N_then ?_
                      refine J_seq ?_
                      refine J_seq ?_
                      refine J_region ?_
                      refine JL_q (wants_none rfl) rfl (ex_move rfl) ?_
                      refine JL_q (wants_none rfl) rfl (ex_nilCheck rfl) ?_
                      refine JL_q (wants_none rfl) rfl (ex_fieldAddr fi_98_0 rfl rfl) ?_
                      refine JL_q (wants_none rfl) rfl (ex_load_bx 7 ti_95 rfl rfl rfl) ?_
                      refine JL_q (wants_none rfl) rfl (ex_len_ow 5 Try.underlying95 rfl rfl) ?_
                      refine JL_q (wants_none rfl) rfl (ex_move rfl) ?_
                      refine JL_nil ?_
                      refine N_then ?_
                      refine J_ctx (fun w hh => hh.od_ow 0 rfl) ?_
                      refine J_loop' (S := (List (List Int)) × Int) (G := Value) (F_impl_ReachWords_L4 s40) (fun s100 g101 => [(10, .pointer (some ⟨b7, 0, none⟩)), (11, g101), (30, g41), (31, .int .i64 (s40.1.length : Int)), (32, .int .i64 s100.2)]) (fun s100 g101 => [.ow 102 g41 s40.1, mpf Value.string (Value.int .i64) b6 s40.2.1, .bx b7 98 [g41, .map (some b6), .bool false], .ow 23 g101 s100.1]) (([] : List (List Int)), 0) (.slice (some ⟨b99, 0, none⟩) 0 0) ⟨rfl, rfl, rfl, rfl, rfl, trivial⟩ [5, 6, 7, 0] rfl rfl (fun s100 g101 => ?_) (fun s100 g101 => ?_)
                      · unfold F_impl_ReachWords_L4
                        refine J_seq ?_
                        refine J_region ?_
                        refine JL_q (wants_none rfl) rfl (ex_lss rfl rfl) ?_
                        refine JL_nil ?_
                        refine N_then ?_
                        refine J_seq ?_
                        refine J_if rfl (fun h102 => ?_) (fun h102 => ?_)
                        · refine J_skip ?_
                          refine N_then ?_
                          refine J_seq ?_
                          refine J_block ?_
                          refine J_seq ?_
                          refine J_region ?_
                          refine JL_bnd fun y103 hy104 => ?_
                          refine JL_ow_open (v := g41) 0 rfl hy104 ?_; rintro b105 cap106 rfl
                          refine JL_q (wants_none rfl) rfl (ex_index_ow 0 Try.underlying95 ti_102 rfl rfl rfl hy104) ?_
                          refine JL_st (wants_none rfl) rfl (st_load_ow_o 0 (Gfound.opens _) ti_102 rfl rfl hy104) (fun v107 => ?_)
                          refine JL_st (wants_none rfl) rfl (st_alloc zi_102 rfl) (fun b108 => ?_)
                          refine JL_sk (wants_none rfl) (sk_store_bx' 0 ti_102 rfl rfl (fun w hh => (cv_aggs ⟨cv_int, cv_int, (hh.cv 1 rfl), cv_int, trivial⟩)) rfl rfl rfl rfl) ?_
                          refine JL_nil ?_
                          refine N_then ?_
                          refine J_region ?_
                          refine JL_q (wants_none rfl) rfl (ex_move rfl) ?_
                          refine JL_q (wants_none rfl) rfl (ex_fieldAddr fi_102_0 rfl rfl) ?_
                          refine JL_q (wants_none rfl) rfl (ex_fieldAddr fi_100_2 rfl rfl) ?_
                          refine JL_q (wants_none rfl) rfl (ex_load_bx 0 ti_23 rfl rfl rfl) ?_
                          refine JL_st (wants_none rfl) rfl (st_buildSlice (vs := [v107]) ([y103.move_word] : List (List Int)) Try.underlying33 ti_23 zi_23 rfl rfl rfl (fun w hh => ⟨(hh.rd 1 rfl), trivial⟩)) (fun b109 => ?_)
                          refine JL_bnd fun z110 hz111 => ?_
                          refine JL_st (wants_none rfl) rfl (st_append 6 Try.underlying33 ti_23 zi_23 rfl bi_23 rfl rfl rfl rfl (fun w hh => hh.src_ow 0 rfl) hz111) (fun v112 => ?_)
                          refine JL_q (wants_none rfl) rfl (ex_assign rfl) ?_
                          refine JL_nil ?_
                          refine N_block ?_
                          refine N_then ?_
                          refine J_region ?_
                          refine JL_q (wants_none rfl) rfl (ex_add rfl rfl) ?_
                          refine JL_q (wants_none rfl) rfl (ex_move rfl) ?_
                          refine JL_nil ?_
                          exact N_next' v112 ⟨rfl, rfl, rfl, rfl, rfl, trivial⟩ [3, 4, 5, 6] rfl rfl
                        · refine J_exit ?_
                          refine N_then_exit ?_
                          exact N_break' g101 ⟨rfl, rfl, rfl, rfl, rfl, trivial⟩ [0, 1, 2, 3] rfl rfl
                      · refine N_then ?_
                        refine J_seq ?_
                        refine J_draw [] (by kernel_rfl) ?_
                        refine JP_take (i := 0) [0, 1, 2, 3] [] rfl (by kernel_rfl) (by kernel_rfl) (by kernel_rfl) rfl rfl (wants_none rfl) rfl (ex_move rfl) ?_
                        refine JP_take (i := 1) [0, 1, 2, 3] [] rfl (by kernel_rfl) (by kernel_rfl) (by kernel_rfl) rfl rfl (wants_none rfl) rfl (ex_move rfl) ?_
                        refine JP_take (i := 2) [0, 1, 2, 3] [] rfl (by kernel_rfl) (by kernel_rfl) (by kernel_rfl) rfl rfl (wants_none rfl) rfl (ex_nilCheck rfl) ?_
                        refine JP_take (i := 3) [0, 1, 2, 3] [] rfl (by kernel_rfl) (by kernel_rfl) (by kernel_rfl) rfl rfl (wants_none rfl) rfl (ex_fieldAddr fi_98_2 rfl rfl) ?_
                        refine JP_take (i := 4) [0, 1, 2, 3] [] rfl (by kernel_rfl) (by kernel_rfl) (by kernel_rfl) rfl rfl (wants_none rfl) rfl (ex_load_bx 2 ti_4 rfl rfl rfl) ?_
                        refine JP_take (i := 5) [0, 1, 2, 3] [] rfl (by kernel_rfl) (by kernel_rfl) (by kernel_rfl) rfl rfl (wants_none rfl) rfl (ex_assign rfl) ?_
                        refine JP_take (i := 6) [0, 1, 2, 3] [] rfl (by kernel_rfl) (by kernel_rfl) (by kernel_rfl) rfl rfl (wants_none rfl) rfl (ex_assign rfl) ?_
                        refine JP_take (i := 7) [0, 1, 2, 3] [] rfl (by kernel_rfl) (by kernel_rfl) (by kernel_rfl) rfl rfl (wants_none rfl) rfl (ex_assign rfl) ?_
                        refine JP_go [] [] rfl rfl rfl (fun _ _ _ => ?_)
                        refine JD_done (by kernel_rfl) ?_
                        refine N_then ?_
                        refine J_ret ?_
                        exact N_ret3 rfl (rv_tmp rfl) (rv_tmp rfl) (rv_tmp rfl) (fun w hh => ⟨g101, rfl, hh.sel [3] rfl⟩)
                    · refine J_skip ?_
                      refine N_block ?_
                      refine N_then ?_
                      refine J_region ?_
                      refine JL_q (wants_none rfl) rfl (ex_add rfl rfl) ?_
                      refine JL_q (wants_none rfl) rfl (ex_move rfl) ?_
                      refine JL_nil ?_
                      exact N_next' g41 ⟨rfl, rfl, rfl, rfl, rfl, rfl, rfl, trivial⟩ [3, 4, 5, 6, 7] rfl rfl
                · refine J_exit ?_
                  refine N_then_exit ?_
                  exact N_break' g41 ⟨rfl, rfl, rfl, rfl, rfl, rfl, rfl, trivial⟩ [0, 1, 2, 3, 4] rfl rfl
              · refine N_block ?_
                refine N_then ?_
                refine J_region ?_
                refine JL_q (wants_none rfl) rfl (ex_move rfl) ?_
                refine JL_q (wants_none rfl) rfl (ex_add rfl rfl) ?_
                refine JL_q (wants_none rfl) rfl (ex_assign rfl) ?_
                refine JL_nil ?_
                exact N_next' g41 ⟨rfl, rfl, rfl, rfl, trivial⟩ [0, 1, 2, 3] rfl rfl
        · refine J_exit ?_
          refine N_then_exit ?_
          exact N_break' g26 ⟨rfl, rfl, rfl, rfl, trivial⟩ [0, 1, 2, 3] rfl rfl
      · refine N_then ?_
        refine J_seq ?_
        refine J_region ?_
        refine JL_q (wants_none rfl) rfl (ex_move rfl) ?_
        refine JL_q (wants_none rfl) rfl (ex_assign rfl) ?_
        refine JL_nil ?_
        refine N_then ?_
        refine J_ret ?_
        refine N_inl1 hK5 rfl (rv_tmp rfl) ?_
        refine JL_st (wants_none rfl) rfl (st_buildSlice_od (vs := []) (B := ([] : List Nat)) ([] : List (List Int)) [] Try.underlying33 ti_23 zi_23 rfl rfl rfl rfl rfl (fun w hh => dwv_nil)) (fun b113 => ?_)
        refine JL_q (wants_none rfl) rfl (ex_assign rfl) ?_
        refine JL_q (wants_none rfl) rfl (ex_assign rfl) ?_
        refine JL_nil ?_
        refine N_then ?_
        refine J_seq ?_
        refine J_seq ?_
        refine J_region ?_
        refine JL_q (wants_none rfl) rfl (ex_move rfl) ?_
        refine JL_q (wants_none rfl) rfl (ex_nilCheck rfl) ?_
        refine JL_q (wants_none rfl) rfl (ex_fieldAddr fi_98_0 rfl rfl) ?_
        refine JL_q (wants_none rfl) rfl (ex_load_bx 4 ti_95 rfl rfl rfl) ?_
        refine JL_q (wants_none rfl) rfl (ex_len_ow 2 Try.underlying95 rfl rfl) ?_
        refine JL_q (wants_none rfl) rfl (ex_move rfl) ?_
        refine JL_nil ?_
        refine N_then ?_
        refine J_ctx (fun w hh => hh.od_ow 0 rfl) ?_
        refine J_loop' (S := (List (List Int)) × Int) (G := Value) (F_impl_ReachWords_L5 s25) (fun s114 g115 => [(10, .pointer (some ⟨b7, 0, none⟩)), (11, g115), (30, g26), (31, .int .i64 (s25.1.length : Int)), (32, .int .i64 s114.2)]) (fun s114 g115 => [.ow 102 g26 s25.1, mpf Value.string (Value.int .i64) b6 s25.2.1, .bx b7 98 [g26, .map (some b6), .bool s25.2.2.1], .ow 23 g115 s114.1]) (([] : List (List Int)), 0) (.slice (some ⟨b113, 0, none⟩) 0 0) ⟨rfl, rfl, rfl, rfl, rfl, trivial⟩ [2, 3, 4, 0] rfl rfl (fun s114 g115 => ?_) (fun s114 g115 => ?_)
        · unfold F_impl_ReachWords_L5
          refine J_seq ?_
          refine J_region ?_
          refine JL_q (wants_none rfl) rfl (ex_lss rfl rfl) ?_
          refine JL_nil ?_
          refine N_then ?_
          refine J_seq ?_
          refine J_if rfl (fun h116 => ?_) (fun h116 => ?_)
          · refine J_skip ?_
            refine N_then ?_
            refine J_seq ?_
            refine J_block ?_
            refine J_seq ?_
            refine J_region ?_
            refine JL_bnd fun y117 hy118 => ?_
            refine JL_ow_open (v := g26) 0 rfl hy118 ?_; rintro b119 cap120 rfl
            refine JL_q (wants_none rfl) rfl (ex_index_ow 0 Try.underlying95 ti_102 rfl rfl rfl hy118) ?_
            refine JL_st (wants_none rfl) rfl (st_load_ow_o 0 (Gfound.opens _) ti_102 rfl rfl hy118) (fun v121 => ?_)
            refine JL_st (wants_none rfl) rfl (st_alloc zi_102 rfl) (fun b122 => ?_)
            refine JL_sk (wants_none rfl) (sk_store_bx' 0 ti_102 rfl rfl (fun w hh => (cv_aggs ⟨cv_int, cv_int, (hh.cv 1 rfl), cv_int, trivial⟩)) rfl rfl rfl rfl) ?_
            refine JL_nil ?_
            refine N_then ?_
            refine J_region ?_
            refine JL_q (wants_none rfl) rfl (ex_move rfl) ?_
            refine JL_q (wants_none rfl) rfl (ex_fieldAddr fi_102_0 rfl rfl) ?_
            refine JL_q (wants_none rfl) rfl (ex_fieldAddr fi_100_2 rfl rfl) ?_
            refine JL_q (wants_none rfl) rfl (ex_load_bx 0 ti_23 rfl rfl rfl) ?_
            refine JL_st (wants_none rfl) rfl (st_buildSlice (vs := [v121]) ([y117.move_word] : List (List Int)) Try.underlying33 ti_23 zi_23 rfl rfl rfl (fun w hh => ⟨(hh.rd 1 rfl), trivial⟩)) (fun b123 => ?_)
            refine JL_bnd fun z124 hz125 => ?_
            refine JL_st (wants_none rfl) rfl (st_append 6 Try.underlying33 ti_23 zi_23 rfl bi_23 rfl rfl rfl rfl (fun w hh => hh.src_ow 0 rfl) hz125) (fun v126 => ?_)
            refine JL_q (wants_none rfl) rfl (ex_assign rfl) ?_
            refine JL_nil ?_
            refine N_block ?_
            refine N_then ?_
            refine J_region ?_
            refine JL_q (wants_none rfl) rfl (ex_add rfl rfl) ?_
            refine JL_q (wants_none rfl) rfl (ex_move rfl) ?_
            refine JL_nil ?_
            exact N_next' v126 ⟨rfl, rfl, rfl, rfl, rfl, trivial⟩ [3, 4, 5, 6] rfl rfl
          · refine J_exit ?_
            refine N_then_exit ?_
            exact N_break' g115 ⟨rfl, rfl, rfl, rfl, rfl, trivial⟩ [0, 1, 2, 3] rfl rfl
        · refine N_then ?_
          refine J_seq ?_
          refine J_draw [] (by kernel_rfl) ?_
          refine JP_take (i := 0) [0, 1, 2, 3] [] rfl (by kernel_rfl) (by kernel_rfl) (by kernel_rfl) rfl rfl (wants_none rfl) rfl (ex_move rfl) ?_
          refine JP_take (i := 1) [0, 1, 2, 3] [] rfl (by kernel_rfl) (by kernel_rfl) (by kernel_rfl) rfl rfl (wants_none rfl) rfl (ex_move rfl) ?_
          refine JP_take (i := 2) [0, 1, 2, 3] [] rfl (by kernel_rfl) (by kernel_rfl) (by kernel_rfl) rfl rfl (wants_none rfl) rfl (ex_nilCheck rfl) ?_
          refine JP_take (i := 3) [0, 1, 2, 3] [] rfl (by kernel_rfl) (by kernel_rfl) (by kernel_rfl) rfl rfl (wants_none rfl) rfl (ex_fieldAddr fi_98_2 rfl rfl) ?_
          refine JP_take (i := 4) [0, 1, 2, 3] [] rfl (by kernel_rfl) (by kernel_rfl) (by kernel_rfl) rfl rfl (wants_none rfl) rfl (ex_load_bx 2 ti_4 rfl rfl rfl) ?_
          refine JP_take (i := 5) [0, 1, 2, 3] [] rfl (by kernel_rfl) (by kernel_rfl) (by kernel_rfl) rfl rfl (wants_none rfl) rfl (ex_assign rfl) ?_
          refine JP_take (i := 6) [0, 1, 2, 3] [] rfl (by kernel_rfl) (by kernel_rfl) (by kernel_rfl) rfl rfl (wants_none rfl) rfl (ex_assign rfl) ?_
          refine JP_take (i := 7) [0, 1, 2, 3] [] rfl (by kernel_rfl) (by kernel_rfl) (by kernel_rfl) rfl rfl (wants_none rfl) rfl (ex_assign rfl) ?_
          refine JP_go [] [] rfl rfl rfl (fun _ _ _ => ?_)
          refine JD_done (by kernel_rfl) ?_
          refine N_then ?_
          refine J_ret ?_
          exact N_ret3 rfl (rv_tmp rfl) (rv_tmp rfl) (rv_tmp rfl) (fun w hh => ⟨g115, rfl, hh.sel [3] rfl⟩)
    · refine JO_ctx (fun w hh => hh.tokf 1 rfl rfl) (tokf_owns (i := 1) rfl) ?_
      refine JO_st rfl (wants_none rfl) rfl (st_buildSlice_od (vs := [.agg #[.int .i64 0, .int .i64 0, x10, .int .i64 (-1)]]) (B := (((x10 : Value).ownBlock.toList ++ []) ++ [])) ([(⟨0, 0, r8, (-1)⟩ : Gfound)] : List Gfound) [0] Try.underlying95 ti_102 zi_102 rfl rfl rfl rfl rfl (fun w hh => (dwv_cons (Gfound.dw (hh.dw 0 rfl)) dwv_nil))) (fun _ hk => nomatch hk) (fun b127 => ?_)
      refine JD_one (i := 4) (by kernel_rfl) ?_
      refine JO_q rfl (wants_none rfl) rfl (ex_load_bx 4 ti_95 rfl rfl rfl) ?_
      refine JD_bnd fun z128 hz129 => ?_
      refine JD_one (i := 7) (by kernel_rfl) ?_
      refine JO_ctx (fun w hh => SH.od_nil (α := Gfound) 102 hh) (fun _ hb => hb) ?_
      refine JO_st rfl (wants_none rfl) rfl (st_append_od 0 1 Try.underlying95 ti_102 zi_102 rfl bi_102 rfl rfl rfl rfl rfl rfl hz129) (fun _ hk => absurd hk List.not_mem_nil) (fun v130 => ?_)
      refine JD_take (i := 8) hp18 rfl (by kernel_rfl) (by kernel_rfl) (by kernel_rfl) (wants_none rfl) rfl (ex_nilCheck rfl) ?_
      refine JD_take (i := 9) hp18 rfl (by kernel_rfl) (by kernel_rfl) (by kernel_rfl) (wants_none rfl) rfl (ex_fieldAddr fi_98_0 rfl rfl) ?_
      refine JD_one (i := 10) (by kernel_rfl) ?_
      refine JO_sk rfl (wants_none rfl) (sk_store_bx' 5 ti_95 rfl rfl (fun w hh => (hh.cv_od 0 rfl)) rfl rfl rfl rfl) (sub_bx 0 rfl) ?_
      refine JD_done (by kernel_rfl) ?_
      refine N_inl0 (.inr rfl) hK11 rfl ?_
      refine JL_nil ?_
      refine N_then ?_
      refine J_seq ?_
      refine J_seq ?_
      refine J_region ?_
      refine JL_q (wants_none rfl) rfl (ex_assign rfl) ?_
      refine JL_nil ?_
      refine N_then ?_
      refine J_ctx (fun w hh => hh.od_ow 0 rfl) ?_
      refine J_loop' (S := (List Gfound) × List (ByteArray × Int) × Bool × Int) (G := Value) (F_impl_ReachWords_L1 p0 p2) (fun s131 g132 => [(0, v0_), (2, .int .i64 p2), (7, .pointer (some ⟨b7, 0, none⟩)), (8, .int .i64 s131.2.2.2)]) (fun s131 g132 => [.rd v0_ p0, .ow 102 g132 s131.1, mpf Value.string (Value.int .i64) b6 s131.2.1, .bx b7 98 [g132, .map (some b6), .bool s131.2.2.1]]) (z128, (mput ([] : List (ByteArray × Int)) r13 ((0 : Nat) : Int)), true, 0) v130 ⟨rfl, rfl, rfl, rfl, trivial⟩ [9, 0, 6, 5] rfl rfl (fun s131 g132 => ?_) (fun s131 g132 => ?_)
      · unfold F_impl_ReachWords_L1
        refine J_seq ?_
        refine J_seq ?_
        refine J_region ?_
        refine JL_q (wants_none rfl) rfl (ex_move rfl) ?_
        refine JL_q (wants_none rfl) rfl (ex_move rfl) ?_
        refine JL_q (wants_none rfl) rfl (ex_nilCheck rfl) ?_
        refine JL_q (wants_none rfl) rfl (ex_fieldAddr fi_98_0 rfl rfl) ?_
        refine JL_q (wants_none rfl) rfl (ex_load_bx 3 ti_95 rfl rfl rfl) ?_
        refine JL_q (wants_none rfl) rfl (ex_len_ow 1 Try.underlying95 rfl rfl) ?_
        refine JL_q (wants_none rfl) rfl (ex_lss rfl rfl) ?_
        refine JL_nil ?_
        refine N_then ?_
        refine J_if rfl (fun h133 => ?_) (fun h133 => ?_)
        · refine J_skip ?_
          refine N_then ?_
          refine J_seq ?_
          refine J_block ?_
          refine J_seq ?_
          refine J_seq ?_
          refine J_region ?_
          refine JL_q (wants_none rfl) rfl (ex_move rfl) ?_
          refine JL_q (wants_none rfl) rfl (ex_move rfl) ?_
          refine JL_q (wants_none rfl) rfl (ex_eql rfl rfl) ?_
          refine JL_nil ?_
          refine N_then ?_
          refine J_if rfl (fun h134 => ?_) (fun h134 => ?_)
          · refine J_seq ?_
            refine J_region ?_
            refine JL_q (wants_none rfl) rfl (ex_move rfl) ?_
            refine JL_q (wants_none rfl) rfl (ex_nilCheck rfl) ?_
            refine JL_q (wants_none rfl) rfl (ex_fieldAddr fi_98_2 rfl rfl) ?_
            refine JL_sk (wants_none rfl) (sk_store_bx' 3 ti_4 rfl rfl (fun w hh => cv_bool) rfl rfl rfl rfl) ?_
            refine JL_nil ?_
            refine N_then ?_
            refine J_exit ?_
            refine N_then_exit ?_
            refine N_block_exit_ne rfl ?_
            refine N_then_exit ?_
            exact N_break' g132 ⟨rfl, rfl, rfl, rfl, trivial⟩ [0, 1, 2, 3] rfl rfl
          · refine J_skip ?_
            refine N_then ?_
            refine J_seq ?_
            refine J_region ?_
            refine JL_q (wants_none rfl) rfl (ex_move rfl) ?_
            refine JL_q (wants_none rfl) rfl (ex_move rfl) ?_
            refine JL_q (wants_none rfl) rfl (ex_nilCheck rfl) ?_
            refine JL_q (wants_none rfl) rfl (ex_fieldAddr fi_98_0 rfl rfl) ?_
            refine JL_q (wants_none rfl) rfl (ex_load_bx 3 ti_95 rfl rfl rfl) ?_
            refine JL_q (wants_none rfl) rfl (ex_move rfl) ?_
            refine JL_bnd fun y135 hy136 => ?_
            refine JL_ow_open (v := g132) 1 rfl hy136 ?_; rintro b137 cap138 rfl
            refine JL_q (wants_none rfl) rfl (ex_index_ow 1 Try.underlying95 ti_102 rfl rfl rfl hy136) ?_
            refine JL_q (wants_none rfl) rfl (ex_fieldAddr fi_102_0 rfl rfl) ?_
            refine JL_q (wants_none rfl) rfl (ex_fieldAddr fi_100_2 rfl rfl) ?_
            refine JL_st (wants_none rfl) rfl (st_load_ow_part 1 (opens_sl _) (Part.trans (Gfound.at_move _) (Gmove.at_word _)) rfl ti_23 rfl rfl hy136) (fun v139 => ?_)
            refine JL_bnd fun r140 hr141 => ?_
            refine JL_call (wants_none rfl) rfl Try.call64 rfl (Ca_self (fun _ => rfl) fun w hh => c_impl_movesOf _ w (fun _ hk => hk.elim) _ _ (hh.rd0 1 rfl) _ _ (hh.rd0 0 rfl) _ hr141) (fun x142 => ?_)
            obtain ⟨x142_0, x142_1⟩ := x142
            refine JL_q (wants_none rfl) rfl (ex_move rfl) ?_
            refine JL_q (wants_none rfl) rfl (ex_extract rfl rfl) ?_
            refine JL_q (wants_none rfl) rfl (ex_extract rfl rfl) ?_
            refine JL_q (wants_none rfl) rfl (ex_assign rfl) ?_
            refine JL_q (wants_none rfl) rfl (ex_assign rfl) ?_
            refine JL_nil ?_
            refine N_then ?_
            refine J_seq ?_
            refine J_cut' (S' := Bool) (G' := Unit) (fun s143 _ => [(0, v0_), (2, .int .i64 p2), (7, .pointer (some ⟨b7, 0, none⟩)), (8, .int .i64 s131.2.2.2), (9, x142_0)]) (fun s143 _ => [.rd v0_ p0, .ow 102 (.slice (some ⟨b137, 0, none⟩) s131.1.length cap138) s131.1, mpf Value.string (Value.int .i64) b6 s131.2.1, .bx b7 98 [(.slice (some ⟨b137, 0, none⟩) s131.1.length cap138), .map (some b6), .bool s143], .od 100 x142_0 r140.1 x142_1]) ?_ (fun s143 g144 => ?_)
            · refine J_region ?_
              refine JL_q (wants_none rfl) rfl (ex_move rfl) ?_
              refine JL_q (wants_none rfl) rfl (ex_move rfl) ?_
              refine JL_q (wants_none rfl) rfl (ex_nilCheck rfl) ?_
              refine JL_q (wants_none rfl) rfl (ex_fieldAddr fi_98_2 rfl rfl) ?_
              refine JL_q (wants_none rfl) rfl (ex_load_bx 5 ti_4 rfl rfl rfl) ?_
              refine JL_q (wants_none rfl) rfl (ex_move rfl) ?_
              refine JL_cond (fun h145 => ?_) (fun h145 => ?_)
              · refine JL_q (wants_some rfl rfl rfl h145) rfl (ex_move rfl) ?_
                refine JL_q (wants_some rfl rfl rfl h145) rfl (ex_not rfl) ?_
                refine JL_q (wants_none rfl) rfl (ex_pick_true rfl h145 rfl) ?_
                refine JL_q (wants_none rfl) rfl (ex_nilCheck rfl) ?_
                refine JL_q (wants_none rfl) rfl (ex_fieldAddr fi_98_2 rfl rfl) ?_
                refine JL_sk (wants_none rfl) (sk_store_bx' 5 ti_4 rfl rfl (fun w hh => cv_bool) rfl rfl rfl rfl) ?_
                refine JL_nil ?_
                exact N_meet' () ⟨rfl, rfl, rfl, rfl, rfl, trivial⟩ [2, 3, 4, 5, 0] rfl rfl
              · refine JL_passed rfl rfl rfl h145 ?_
                refine JL_passed rfl rfl rfl h145 ?_
                refine JL_q (wants_none rfl) rfl (ex_pick_false rfl h145 rfl) ?_
                refine JL_q (wants_none rfl) rfl (ex_nilCheck rfl) ?_
                refine JL_q (wants_none rfl) rfl (ex_fieldAddr fi_98_2 rfl rfl) ?_
                refine JL_sk (wants_none rfl) (sk_store_bx' 5 ti_4 rfl rfl (fun w hh => cv_bool) rfl rfl rfl rfl) ?_
                refine JL_nil ?_
                exact N_meet' () ⟨rfl, rfl, rfl, rfl, rfl, trivial⟩ [2, 3, 4, 5, 0] rfl rfl
            · refine N_then ?_
              refine J_seq ?_
              refine J_region ?_
              refine JL_q (wants_none rfl) rfl (ex_move rfl) ?_
              refine JL_q (wants_none rfl) rfl (ex_od 4 rfl (ex_len_ow 4 Try.underlying108 rfl rfl)) ?_
              refine JL_q (wants_none rfl) rfl (ex_move rfl) ?_
              refine JL_nil ?_
              refine N_then ?_
              refine J_loop' (S := (List Gfound) × List (ByteArray × Int) × Int) (G := Value) (F_impl_ReachWords_L2 s131 r140) (fun s146 g147 => [(0, v0_), (2, .int .i64 p2), (7, .pointer (some ⟨b7, 0, none⟩)), (8, .int .i64 s131.2.2.2), (62, x142_0), (63, .int .i64 (r140.1.length : Int)), (64, .int .i64 s146.2.2)]) (fun s146 g147 => [.rd v0_ p0, .ow 102 g147 s146.1, mpf Value.string (Value.int .i64) b6 s146.2.1, .bx b7 98 [g147, .map (some b6), .bool s143], .od 100 x142_0 r140.1 x142_1]) (s131.1, s131.2.1, 0) (.slice (some ⟨b137, 0, none⟩) s131.1.length cap138) ⟨rfl, rfl, rfl, rfl, rfl, rfl, rfl, trivial⟩ [0, 1, 2, 3, 4] rfl rfl (fun s146 g147 => ?_) (fun s146 g147 => ?_)
              · unfold F_impl_ReachWords_L2
                refine J_seq ?_
                refine J_region ?_
                refine JL_q (wants_none rfl) rfl (ex_lss rfl rfl) ?_
                refine JL_nil ?_
                refine N_then ?_
                refine J_seq ?_
                refine J_if rfl (fun h148 => ?_) (fun h148 => ?_)
                · refine J_skip ?_
                  refine N_then ?_
                  refine J_seq ?_
                  refine J_block ?_
                  refine J_seq ?_
                  refine J_region ?_
                  refine JL_bnd fun y149 hy150 => ?_
                  refine JL_od_open (v := x142_0) 4 rfl hy150 ?_; rintro b151 cap152 rfl
                  refine JL_q (wants_none rfl) rfl (ex_od 4 rfl (ex_index_ow 4 Try.underlying108 ti_100 rfl rfl rfl hy150)) ?_
                  refine JL_st (wants_none rfl) rfl (st_od 4 rfl (st_load_ow_o 4 (Gmove.opens _) ti_100 rfl rfl hy150) (fun _ => rfl)) (fun v153 => ?_)
                  refine JL_st (wants_none rfl) rfl (st_alloc zi_100 rfl) (fun b154 => ?_)
                  refine JL_sk (wants_none rfl) (sk_store_bx' 0 ti_100 rfl rfl (fun w hh => (cv_aggs ⟨cv_int, cv_int, (hh.cv 1 rfl), trivial⟩)) rfl rfl rfl rfl) ?_
                  refine JL_nil ?_
                  refine N_then ?_
                  refine J_seq ?_
                  refine J_region ?_
                  refine JL_q (wants_none rfl) rfl (ex_move rfl) ?_
                  refine JL_q (wants_none rfl) rfl (ex_load_bx_agg 0 ti_100 rfl rfl rfl rfl) ?_
                  refine JL_q (wants_none rfl) rfl (ex_move rfl) ?_
                  refine JL_q (wants_none rfl) rfl (ex_buildN [(0, .agg #[.int .i64 y149.rule, .int .i64 y149.at_, v153], [.int .i64 y149.rule, .int .i64 y149.at_, v153]), (1, .int .i64 s131.2.2.2, [.int .i64 s131.2.2.2])] si_102 rfl (.cons fi_102_0 rfl rfl rfl (.cons fi_102_1 rfl rfl rfl .nil)) (fun w hh => ⟨(cv_aggs ⟨cv_int, cv_int, (hh.cv 1 rfl), trivial⟩), cv_int, trivial⟩)) ?_
                  refine JL_inline (wants_none rfl) rfl Try.call91 rfl Try.func91 rfl Try.ntmps91 rfl rfl (fun K_ hK155 => ?_)
                  refine J_seq ?_
                  refine J_region ?_
                  refine JL_st (wants_none rfl) rfl (st_box' rfl (fun w hh => (cv_aggs ⟨cv_int, cv_int, (hh.cv 1 rfl), cv_int, trivial⟩))) (fun b156 => ?_)
                  refine JL_nil ?_
                  refine N_then ?_
                  refine J_seq ?_
                  refine J_region ?_
                  refine JL_q (wants_none rfl) rfl (ex_fieldAddr fi_102_0 rfl rfl) ?_
                  refine JL_q (wants_none rfl) rfl (ex_fieldAddr fi_100_2 rfl rfl) ?_
                  refine JL_q (wants_none rfl) rfl (ex_load_bx 0 ti_23 rfl rfl rfl) ?_
                  refine JL_bnd fun r157 hr158 => ?_
                  refine JL_call (wants_none rfl) rfl Try.call59 rfl (Ca_of0 fun w hh => c_impl_keyOf _ w (fun _ hk => hk.elim) _ _ (hh.rd0 2 rfl) _ hr158) (fun _ => ?_)
                  refine JL_q (wants_none rfl) rfl (ex_assign rfl) ?_
                  refine JL_nil ?_
                  refine N_then ?_
                  refine J_seq ?_
                  refine J_region ?_
                  refine JL_q (wants_none rfl) rfl (ex_move rfl) ?_
                  refine JL_q (wants_none rfl) rfl (ex_nilCheck rfl) ?_
                  refine JL_q (wants_none rfl) rfl (ex_fieldAddr fi_98_1 rfl rfl) ?_
                  refine JL_q (wants_none rfl) rfl (ex_load_bx 6 ti_96 rfl rfl rfl) ?_
                  refine JL_q (wants_none rfl) rfl (ex_move rfl) ?_
                  refine JL_q (wants_none rfl) rfl (ex_lookup_ok (x := r157) (z := 0) 5 key_9 Try.underlying96 zi_3 rfl rfl rfl rfl rfl) ?_
                  refine JL_q (wants_none rfl) rfl (ex_move rfl) ?_
                  refine JL_q (wants_none rfl) rfl (ex_extract rfl rfl) ?_
                  refine JL_q (wants_none rfl) rfl (ex_extract rfl rfl) ?_
                  refine JL_q (wants_none rfl) rfl (ex_assign rfl) ?_
                  refine JL_q (wants_none rfl) rfl (ex_assign rfl) ?_
                  refine JL_nil ?_
                  refine N_then ?_
                  refine J_seq ?_
                  refine J_region ?_
                  refine JL_q (wants_none rfl) rfl (ex_move rfl) ?_
                  refine JL_q (wants_none rfl) rfl (ex_not rfl) ?_
                  refine JL_nil ?_
                  refine N_then ?_
                  refine J_if rfl (fun h159 => ?_) (fun h159 => ?_)
                  · refine J_seq ?_
                    refine J_draw [5] (by kernel_rfl) ?_
                    refine JP_take (i := 0) [0, 1, 2, 3, 4, 6, 7] [5] rfl (by kernel_rfl) (by kernel_rfl) (by kernel_rfl) rfl rfl (wants_none rfl) rfl (ex_move rfl) ?_
                    refine JP_take (i := 1) [0, 1, 2, 3, 4, 6, 7] [5] rfl (by kernel_rfl) (by kernel_rfl) (by kernel_rfl) rfl rfl (wants_none rfl) rfl (ex_nilCheck rfl) ?_
                    refine JP_take (i := 2) [0, 1, 2, 3, 4, 6, 7] [5] rfl (by kernel_rfl) (by kernel_rfl) (by kernel_rfl) rfl rfl (wants_none rfl) rfl (ex_fieldAddr fi_98_1 rfl rfl) ?_
                    refine JP_take (i := 3) [0, 1, 2, 3, 4, 6, 7] [5] rfl (by kernel_rfl) (by kernel_rfl) (by kernel_rfl) rfl rfl (wants_none rfl) rfl (ex_load_bx 5 ti_96 rfl rfl rfl) ?_
                    refine JP_take (i := 4) [0, 1, 2, 3, 4, 6, 7] [5] rfl (by kernel_rfl) (by kernel_rfl) (by kernel_rfl) rfl rfl (wants_none rfl) rfl (ex_move rfl) ?_
                    refine JP_take (i := 5) [0, 1, 2, 3, 4, 6, 7] [5] rfl (by kernel_rfl) (by kernel_rfl) (by kernel_rfl) rfl rfl (wants_none rfl) rfl (ex_move rfl) ?_
                    refine JP_take (i := 6) [0, 1, 2, 3, 4, 6, 7] [5] rfl (by kernel_rfl) (by kernel_rfl) (by kernel_rfl) rfl rfl (wants_none rfl) rfl (ex_nilCheck rfl) ?_
                    refine JP_take (i := 7) [0, 1, 2, 3, 4, 6, 7] [5] rfl (by kernel_rfl) (by kernel_rfl) (by kernel_rfl) rfl rfl (wants_none rfl) rfl (ex_fieldAddr fi_98_0 rfl rfl) ?_
                    refine JP_take (i := 8) [0, 1, 2, 3, 4, 6, 7] [5] rfl (by kernel_rfl) (by kernel_rfl) (by kernel_rfl) rfl rfl (wants_none rfl) rfl (ex_load_bx 5 ti_95 rfl rfl rfl) ?_
                    refine JP_take (i := 9) [0, 1, 2, 3, 4, 6, 7] [5] rfl (by kernel_rfl) (by kernel_rfl) (by kernel_rfl) rfl rfl (wants_none rfl) rfl (ex_len_ow 4 Try.underlying95 rfl rfl) ?_
                    refine JP_go [0, 1, 2, 3, 4, 6, 7] [5] rfl rfl rfl (fun w161 h1_162 hp160 => ?_)
                    refine JD_one (i := 10) (by kernel_rfl) ?_
                    refine JO_sk rfl (wants_none rfl) (sk_mapUpdate (x := r157) (y := (s146.1.length : Int)) 5 key_9 Try.underlying96 rfl rfl rfl rfl rfl rfl rfl rfl) (sub_mp 0 rfl) ?_
                    refine JD_done (by kernel_rfl) ?_
                    refine N_then ?_
                    refine J_draw [4, 6] (by kernel_rfl) ?_
                    refine JP_take (i := 0) [0, 1, 2, 3, 5, 7] [4, 6] rfl (by kernel_rfl) (by kernel_rfl) (by kernel_rfl) rfl rfl (wants_none rfl) rfl (ex_move rfl) ?_
                    refine JP_take (i := 1) [0, 1, 2, 3, 5, 7] [4, 6] rfl (by kernel_rfl) (by kernel_rfl) (by kernel_rfl) rfl rfl (wants_none rfl) rfl (ex_move rfl) ?_
                    refine JP_take (i := 2) [0, 1, 2, 3, 5, 7] [4, 6] rfl (by kernel_rfl) (by kernel_rfl) (by kernel_rfl) rfl rfl (wants_none rfl) rfl (ex_nilCheck rfl) ?_
                    refine JP_take (i := 3) [0, 1, 2, 3, 5, 7] [4, 6] rfl (by kernel_rfl) (by kernel_rfl) (by kernel_rfl) rfl rfl (wants_none rfl) rfl (ex_fieldAddr fi_98_0 rfl rfl) ?_
                    refine JP_take (i := 5) [0, 1, 2, 3, 5, 7] [4, 6] rfl (by kernel_rfl) (by kernel_rfl) (by kernel_rfl) rfl rfl (wants_none rfl) rfl (ex_load_bx_agg 0 ti_102 rfl rfl rfl rfl) ?_
                    refine JP_go [0, 1, 2, 3, 5, 7] [4, 6] rfl rfl rfl (fun w164 h1_165 hp163 => ?_)
                    refine JD_two (i := 4) (j := 6) (by kernel_rfl) ?_ ?_
                    · refine JO_q rfl (wants_none rfl) rfl (ex_load_bx 6 ti_95 rfl rfl rfl) ?_
                      refine JD_one (i := 6) (by kernel_rfl) ?_
                      refine JO_st rfl (wants_none rfl) rfl (st_buildSlice (vs := [.agg #[.int .i64 y149.rule, .int .i64 y149.at_, v153, .int .i64 s131.2.2.2]]) ([(⟨y149.rule, y149.at_, y149.word, s131.2.2.2⟩ : Gfound)] : List Gfound) Try.underlying95 ti_102 zi_102 rfl rfl rfl (fun w hh => ⟨(Gfound.rdmk (Rd.mk_int _ _ _) (Rd.mk_int _ _ _) (hh.rd 2 rfl) (Rd.mk_int _ _ _)), trivial⟩)) (fun _ hk => nomatch hk) (fun b166 => ?_)
                      refine JD_bnd fun z167 hz168 => ?_
                      refine JD_one (i := 7) (by kernel_rfl) ?_
                      refine JO_st rfl (wants_none rfl) rfl (st_append 5 Try.underlying95 ti_102 zi_102 rfl bi_102 rfl rfl rfl rfl (fun w hh => hh.src_ow 0 rfl) hz168) (sub_ow 0 rfl) (fun v169 => ?_)
                      refine JD_take (i := 8) hp163 rfl (by kernel_rfl) (by kernel_rfl) (by kernel_rfl) (wants_none rfl) rfl (ex_nilCheck rfl) ?_
                      refine JD_take (i := 9) hp163 rfl (by kernel_rfl) (by kernel_rfl) (by kernel_rfl) (wants_none rfl) rfl (ex_fieldAddr fi_98_0 rfl rfl) ?_
                      refine JD_one (i := 10) (by kernel_rfl) ?_
                      refine JO_sk rfl (wants_none rfl) (sk_store_bx' 7 ti_95 rfl rfl (fun w hh => (hh.cv_ow 5 rfl)) rfl rfl rfl rfl) (sub_bx 1 rfl) ?_
                      refine JD_done (by kernel_rfl) ?_
                      refine N_inl0 (.inr rfl) hK155 rfl ?_
                      refine JL_nil ?_
                      refine N_then ?_
                      refine J_seq ?_
                      refine J_region ?_
                      refine JL_q (wants_none rfl) rfl (ex_move rfl) ?_
                      refine JL_q (wants_none rfl) rfl (ex_nilCheck rfl) ?_
                      refine JL_q (wants_none rfl) rfl (ex_fieldAddr fi_98_0 rfl rfl) ?_
                      refine JL_q (wants_none rfl) rfl (ex_load_bx 7 ti_95 rfl rfl rfl) ?_
                      refine JL_q (wants_none rfl) rfl (ex_len_ow 5 Try.underlying95 rfl rfl) ?_
                      refine JL_q (wants_none rfl) rfl (ex_eql rfl rfl) ?_
                      refine JL_nil ?_
                      refine N_then ?_
                      refine J_if rfl (fun h170 => ?_) (fun h170 => ?_)
                      · refine J_seq ?_
                        refine J_region ?_
                        refine JL_q (wants_none rfl) rfl (ex_move rfl) ?_
                        refine JL_q (wants_none rfl) rfl (ex_nilCheck rfl) ?_
                        refine JL_q (wants_none rfl) rfl (ex_fieldAddr fi_98_2 rfl rfl) ?_
                        refine JL_sk (wants_none rfl) (sk_store_bx' 7 ti_4 rfl rfl (fun w hh => cv_bool) rfl rfl rfl rfl) ?_
                        refine JL_nil ?_
                        refine N_then ?_
                        refine J_seq ?_
                        refine J_region ?_
                        refine JL_q (wants_none rfl) rfl (ex_move rfl) ?_
                        refine JL_q (wants_none rfl) rfl (ex_assign rfl) ?_
                        refine JL_nil ?_
                        refine N_then ?_
                        refine J_ret ?_
                        refine N_block_ret ?_
                        refine N_then_ret ?_
                        refine N_round_ret ?_
                        refine N_block_ret ?_
                        refine N_then_ret ?_
                        refine N_round_reti ?_
                        refine N_then_ret ?_
                        refine N_inl1 hK5 rfl (rv_tmp rfl) ?_
                        refine JL_st (wants_none rfl) rfl (st_buildSlice_od (vs := []) (B := ([] : List Nat)) ([] : List (List Int)) [] Try.underlying33 ti_23 zi_23 rfl rfl rfl rfl rfl (fun w hh => dwv_nil)) (fun b171 => ?_)
                        refine JL_q (wants_none rfl) rfl (ex_assign rfl) ?_
                        refine JL_q (wants_none rfl) rfl (ex_assign rfl) ?_
                        refine JL_nil ?_
                        refine N_then ?_
                        refine J_seq ?_
                        refine J_seq ?_
                        refine J_region ?_
                        refine JL_q (wants_none rfl) rfl (ex_move rfl) ?_
                        refine JL_q (wants_none rfl) rfl (ex_nilCheck rfl) ?_
                        refine JL_q (wants_none rfl) rfl (ex_fieldAddr fi_98_0 rfl rfl) ?_
                        refine JL_q (wants_none rfl) rfl (ex_load_bx 8 ti_95 rfl rfl rfl) ?_
                        refine JL_q (wants_none rfl) rfl (ex_len_ow 6 Try.underlying95 rfl rfl) ?_
                        refine JL_q (wants_none rfl) rfl (ex_move rfl) ?_
                        refine JL_nil ?_
                        refine N_then ?_
                        refine J_ctx (fun w hh => hh.od_ow 0 rfl) ?_
                        refine J_loop' (S := (List (List Int)) × Int) (G := Value) (F_impl_ReachWords_L3 z167) (fun s172 g173 => [(10, .pointer (some ⟨b7, 0, none⟩)), (11, g173), (30, v169), (31, .int .i64 (z167.length : Int)), (32, .int .i64 s172.2)]) (fun s172 g173 => [.ow 102 v169 z167, mpf Value.string (Value.int .i64) b6 (mput s146.2.1 r157 (s146.1.length : Int)), .bx b7 98 [v169, .map (some b6), .bool false], .ow 23 g173 s172.1]) (([] : List (List Int)), 0) (.slice (some ⟨b171, 0, none⟩) 0 0) ⟨rfl, rfl, rfl, rfl, rfl, trivial⟩ [6, 7, 8, 0] rfl rfl (fun s172 g173 => ?_) (fun s172 g173 => ?_)
                        · unfold F_impl_ReachWords_L3
                          refine J_seq ?_
                          refine J_region ?_
                          refine JL_q (wants_none rfl) rfl (ex_lss rfl rfl) ?_
                          refine JL_nil ?_
                          refine N_then ?_
                          refine J_seq ?_
                          refine J_if rfl (fun h174 => ?_) (fun h174 => ?_)
                          · refine J_skip ?_
                            refine N_then ?_
                            refine J_seq ?_
                            refine J_block ?_
                            refine J_seq ?_
                            refine J_region ?_
                            refine JL_bnd fun y175 hy176 => ?_
                            refine JL_ow_open (v := v169) 0 rfl hy176 ?_; rintro b177 cap178 rfl
                            refine JL_q (wants_none rfl) rfl (ex_index_ow 0 Try.underlying95 ti_102 rfl rfl rfl hy176) ?_
                            refine JL_st (wants_none rfl) rfl (st_load_ow_o 0 (Gfound.opens _) ti_102 rfl rfl hy176) (fun v179 => ?_)
                            refine JL_st (wants_none rfl) rfl (st_alloc zi_102 rfl) (fun b180 => ?_)
                            refine JL_sk (wants_none rfl) (sk_store_bx' 0 ti_102 rfl rfl (fun w hh => (cv_aggs ⟨cv_int, cv_int, (hh.cv 1 rfl), cv_int, trivial⟩)) rfl rfl rfl rfl) ?_
                            refine JL_nil ?_
                            refine N_then ?_
                            refine J_region ?_
                            refine JL_q (wants_none rfl) rfl (ex_move rfl) ?_
                            refine JL_q (wants_none rfl) rfl (ex_fieldAddr fi_102_0 rfl rfl) ?_
                            refine JL_q (wants_none rfl) rfl (ex_fieldAddr fi_100_2 rfl rfl) ?_
                            refine JL_q (wants_none rfl) rfl (ex_load_bx 0 ti_23 rfl rfl rfl) ?_
                            refine JL_st (wants_none rfl) rfl (st_buildSlice (vs := [v179]) ([y175.move_word] : List (List Int)) Try.underlying33 ti_23 zi_23 rfl rfl rfl (fun w hh => ⟨(hh.rd 1 rfl), trivial⟩)) (fun b181 => ?_)
                            refine JL_bnd fun z182 hz183 => ?_
                            refine JL_st (wants_none rfl) rfl (st_append 6 Try.underlying33 ti_23 zi_23 rfl bi_23 rfl rfl rfl rfl (fun w hh => hh.src_ow 0 rfl) hz183) (fun v184 => ?_)
                            refine JL_q (wants_none rfl) rfl (ex_assign rfl) ?_
                            refine JL_nil ?_
                            refine N_block ?_
                            refine N_then ?_
                            refine J_region ?_
                            refine JL_q (wants_none rfl) rfl (ex_add rfl rfl) ?_
                            refine JL_q (wants_none rfl) rfl (ex_move rfl) ?_
                            refine JL_nil ?_
                            exact N_next' v184 ⟨rfl, rfl, rfl, rfl, rfl, trivial⟩ [3, 4, 5, 6] rfl rfl
                          · refine J_exit ?_
                            refine N_then_exit ?_
                            exact N_break' g173 ⟨rfl, rfl, rfl, rfl, rfl, trivial⟩ [0, 1, 2, 3] rfl rfl
                        · refine N_then ?_
                          refine J_seq ?_
                          refine J_draw [] (by kernel_rfl) ?_
                          refine JP_take (i := 0) [0, 1, 2, 3] [] rfl (by kernel_rfl) (by kernel_rfl) (by kernel_rfl) rfl rfl (wants_none rfl) rfl (ex_move rfl) ?_
                          refine JP_take (i := 1) [0, 1, 2, 3] [] rfl (by kernel_rfl) (by kernel_rfl) (by kernel_rfl) rfl rfl (wants_none rfl) rfl (ex_move rfl) ?_
                          refine JP_take (i := 2) [0, 1, 2, 3] [] rfl (by kernel_rfl) (by kernel_rfl) (by kernel_rfl) rfl rfl (wants_none rfl) rfl (ex_nilCheck rfl) ?_
                          refine JP_take (i := 3) [0, 1, 2, 3] [] rfl (by kernel_rfl) (by kernel_rfl) (by kernel_rfl) rfl rfl (wants_none rfl) rfl (ex_fieldAddr fi_98_2 rfl rfl) ?_
                          refine JP_take (i := 4) [0, 1, 2, 3] [] rfl (by kernel_rfl) (by kernel_rfl) (by kernel_rfl) rfl rfl (wants_none rfl) rfl (ex_load_bx 2 ti_4 rfl rfl rfl) ?_
                          refine JP_take (i := 5) [0, 1, 2, 3] [] rfl (by kernel_rfl) (by kernel_rfl) (by kernel_rfl) rfl rfl (wants_none rfl) rfl (ex_assign rfl) ?_
                          refine JP_take (i := 6) [0, 1, 2, 3] [] rfl (by kernel_rfl) (by kernel_rfl) (by kernel_rfl) rfl rfl (wants_none rfl) rfl (ex_assign rfl) ?_
                          refine JP_take (i := 7) [0, 1, 2, 3] [] rfl (by kernel_rfl) (by kernel_rfl) (by kernel_rfl) rfl rfl (wants_none rfl) rfl (ex_assign rfl) ?_
                          refine JP_go [] [] rfl rfl rfl (fun _ _ _ => ?_)
                          refine JD_done (by kernel_rfl) ?_
                          refine N_then ?_
                          refine J_ret ?_
                          exact N_ret3 rfl (rv_tmp rfl) (rv_tmp rfl) (rv_tmp rfl) (fun w hh => ⟨g173, rfl, hh.sel [3] rfl⟩)
                      · refine J_skip ?_
                        refine N_block ?_
                        refine N_then ?_
                        refine J_region ?_
                        refine JL_q (wants_none rfl) rfl (ex_add rfl rfl) ?_
                        refine JL_q (wants_none rfl) rfl (ex_move rfl) ?_
                        refine JL_nil ?_
                        exact N_next' v169 ⟨rfl, rfl, rfl, rfl, rfl, rfl, rfl, trivial⟩ [4, 5, 6, 7, 8] rfl rfl
                    · refine JO_st rfl (wants_none rfl) rfl (st_buildSlice (vs := [.agg #[.int .i64 y149.rule, .int .i64 y149.at_, v153, .int .i64 s131.2.2.2]]) ([(⟨y149.rule, y149.at_, y149.word, s131.2.2.2⟩ : Gfound)] : List Gfound) Try.underlying95 ti_102 zi_102 rfl rfl rfl (fun w hh => ⟨(Gfound.rdmk (Rd.mk_int _ _ _) (Rd.mk_int _ _ _) (hh.rd 2 rfl) (Rd.mk_int _ _ _)), trivial⟩)) (fun _ hk => nomatch hk) (fun b185 => ?_)
                      refine JD_one (i := 4) (by kernel_rfl) ?_
                      refine JO_q rfl (wants_none rfl) rfl (ex_load_bx 7 ti_95 rfl rfl rfl) ?_
                      refine JD_bnd fun z186 hz187 => ?_
                      refine JD_one (i := 7) (by kernel_rfl) ?_
                      refine JO_st rfl (wants_none rfl) rfl (st_append 5 Try.underlying95 ti_102 zi_102 rfl bi_102 rfl rfl rfl rfl (fun w hh => hh.src_ow 0 rfl) hz187) (sub_ow 0 rfl) (fun v188 => ?_)
                      refine JD_take (i := 8) hp163 rfl (by kernel_rfl) (by kernel_rfl) (by kernel_rfl) (wants_none rfl) rfl (ex_nilCheck rfl) ?_
                      refine JD_take (i := 9) hp163 rfl (by kernel_rfl) (by kernel_rfl) (by kernel_rfl) (wants_none rfl) rfl (ex_fieldAddr fi_98_0 rfl rfl) ?_
                      refine JD_one (i := 10) (by kernel_rfl) ?_
                      refine JO_sk rfl (wants_none rfl) (sk_store_bx' 7 ti_95 rfl rfl (fun w hh => (hh.cv_ow 5 rfl)) rfl rfl rfl rfl) (sub_bx 1 rfl) ?_
                      refine JD_done (by kernel_rfl) ?_
                      refine N_inl0 (.inr rfl) hK155 rfl ?_
                      refine JL_nil ?_
                      refine N_then ?_
                      refine J_seq ?_
                      refine J_region ?_
                      refine JL_q (wants_none rfl) rfl (ex_move rfl) ?_
                      refine JL_q (wants_none rfl) rfl (ex_nilCheck rfl) ?_
                      refine JL_q (wants_none rfl) rfl (ex_fieldAddr fi_98_0 rfl rfl) ?_
                      refine JL_q (wants_none rfl) rfl (ex_load_bx 7 ti_95 rfl rfl rfl) ?_
                      refine JL_q (wants_none rfl) rfl (ex_len_ow 5 Try.underlying95 rfl rfl) ?_
                      refine JL_q (wants_none rfl) rfl (ex_eql rfl rfl) ?_
                      refine JL_nil ?_
                      refine N_then ?_
                      refine J_if rfl (fun h189 => ?_) (fun h189 => ?_)
                      · refine J_seq ?_
                        refine J_region ?_
                        refine JL_q (wants_none rfl) rfl (ex_move rfl) ?_
                        refine JL_q (wants_none rfl) rfl (ex_nilCheck rfl) ?_
                        refine JL_q (wants_none rfl) rfl (ex_fieldAddr fi_98_2 rfl rfl) ?_
                        refine JL_sk (wants_none rfl) (sk_store_bx' 7 ti_4 rfl rfl (fun w hh => cv_bool) rfl rfl rfl rfl) ?_
                        refine JL_nil ?_
                        refine N_then ?_
                        refine J_seq ?_
                        refine J_region ?_
                        refine JL_q (wants_none rfl) rfl (ex_move rfl) ?_
                        refine JL_q (wants_none rfl) rfl (ex_assign rfl) ?_
                        refine JL_nil ?_
                        refine N_then ?_
                        refine J_ret ?_
                        refine N_block_ret ?_
                        refine N_then_ret ?_
                        refine N_round_ret ?_
                        refine N_block_ret ?_
                        refine N_then_ret ?_
                        refine N_round_reti ?_
                        refine N_then_ret ?_
                        refine N_inl1 hK5 rfl (rv_tmp rfl) ?_
                        refine JL_st (wants_none rfl) rfl (st_buildSlice_od (vs := []) (B := ([] : List Nat)) ([] : List (List Int)) [] Try.underlying33 ti_23 zi_23 rfl rfl rfl rfl rfl (fun w hh => dwv_nil)) (fun b190 => ?_)
                        refine JL_q (wants_none rfl) rfl (ex_assign rfl) ?_
                        refine JL_q (wants_none rfl) rfl (ex_assign rfl) ?_
                        refine JL_nil ?_
                        refine N_then ?_
                        refine J_seq ?_
                        refine J_seq ?_
                        refine J_region ?_
                        refine JL_q (wants_none rfl) rfl (ex_move rfl) ?_
                        refine JL_q (wants_none rfl) rfl (ex_nilCheck rfl) ?_
                        refine JL_q (wants_none rfl) rfl (ex_fieldAddr fi_98_0 rfl rfl) ?_
                        refine JL_q (wants_none rfl) rfl (ex_load_bx 8 ti_95 rfl rfl rfl) ?_
                        refine JL_q (wants_none rfl) rfl (ex_len_ow 6 Try.underlying95 rfl rfl) ?_
                        refine JL_q (wants_none rfl) rfl (ex_move rfl) ?_
                        refine JL_nil ?_
                        refine N_then ?_
                        refine J_ctx (fun w hh => hh.od_ow 0 rfl) ?_
                        refine J_loop' (S := (List (List Int)) × Int) (G := Value) (F_impl_ReachWords_L3 z186) (fun s191 g192 => [(10, .pointer (some ⟨b7, 0, none⟩)), (11, g192), (30, v188), (31, .int .i64 (z186.length : Int)), (32, .int .i64 s191.2)]) (fun s191 g192 => [.ow 102 v188 z186, mpf Value.string (Value.int .i64) b6 (mput s146.2.1 r157 (s146.1.length : Int)), .bx b7 98 [v188, .map (some b6), .bool false], .ow 23 g192 s191.1]) (([] : List (List Int)), 0) (.slice (some ⟨b190, 0, none⟩) 0 0) ⟨rfl, rfl, rfl, rfl, rfl, trivial⟩ [6, 7, 8, 0] rfl rfl (fun s191 g192 => ?_) (fun s191 g192 => ?_)
                        · unfold F_impl_ReachWords_L3
                          refine J_seq ?_
                          refine J_region ?_
                          refine JL_q (wants_none rfl) rfl (ex_lss rfl rfl) ?_
                          refine JL_nil ?_
                          refine N_then ?_
                          refine J_seq ?_
                          refine J_if rfl (fun h193 => ?_) (fun h193 => ?_)
                          · refine J_skip ?_
                            refine N_then ?_
                            refine J_seq ?_
                            refine J_block ?_
                            refine J_seq ?_
                            refine J_region ?_
                            refine JL_bnd fun y194 hy195 => ?_
                            refine JL_ow_open (v := v188) 0 rfl hy195 ?_; rintro b196 cap197 rfl
                            refine JL_q (wants_none rfl) rfl (ex_index_ow 0 Try.underlying95 ti_102 rfl rfl rfl hy195) ?_
                            refine JL_st (wants_none rfl) rfl (st_load_ow_o 0 (Gfound.opens _) ti_102 rfl rfl hy195) (fun v198 => ?_)
                            refine JL_st (wants_none rfl) rfl (st_alloc zi_102 rfl) (fun b199 => ?_)
                            refine JL_sk (wants_none rfl) (sk_store_bx' 0 ti_102 rfl rfl (fun w hh => (cv_aggs ⟨cv_int, cv_int, (hh.cv 1 rfl), cv_int, trivial⟩)) rfl rfl rfl rfl) ?_
                            refine JL_nil ?_
                            refine N_then ?_
                            refine J_region ?_
                            refine JL_q (wants_none rfl) rfl (ex_move rfl) ?_
                            refine JL_q (wants_none rfl) rfl (ex_fieldAddr fi_102_0 rfl rfl) ?_
                            refine JL_q (wants_none rfl) rfl (ex_fieldAddr fi_100_2 rfl rfl) ?_
                            refine JL_q (wants_none rfl) rfl (ex_load_bx 0 ti_23 rfl rfl rfl) ?_
                            refine JL_st (wants_none rfl) rfl (st_buildSlice (vs := [v198]) ([y194.move_word] : List (List Int)) Try.underlying33 ti_23 zi_23 rfl rfl rfl (fun w hh => ⟨(hh.rd 1 rfl), trivial⟩)) (fun b200 => ?_)
                            refine JL_bnd fun z201 hz202 => ?_
                            refine JL_st (wants_none rfl) rfl (st_append 6 Try.underlying33 ti_23 zi_23 rfl bi_23 rfl rfl rfl rfl (fun w hh => hh.src_ow 0 rfl) hz202) (fun v203 => ?_)
                            refine JL_q (wants_none rfl) rfl (ex_assign rfl) ?_
                            refine JL_nil ?_
                            refine N_block ?_
                            refine N_then ?_
                            refine J_region ?_
                            refine JL_q (wants_none rfl) rfl (ex_add rfl rfl) ?_
                            refine JL_q (wants_none rfl) rfl (ex_move rfl) ?_
                            refine JL_nil ?_
                            exact N_next' v203 ⟨rfl, rfl, rfl, rfl, rfl, trivial⟩ [3, 4, 5, 6] rfl rfl
                          · refine J_exit ?_
                            refine N_then_exit ?_
                            exact N_break' g192 ⟨rfl, rfl, rfl, rfl, rfl, trivial⟩ [0, 1, 2, 3] rfl rfl
                        · refine N_then ?_
                          refine J_seq ?_
                          refine J_draw [] (by kernel_rfl) ?_
                          refine JP_take (i := 0) [0, 1, 2, 3] [] rfl (by kernel_rfl) (by kernel_rfl) (by kernel_rfl) rfl rfl (wants_none rfl) rfl (ex_move rfl) ?_
                          refine JP_take (i := 1) [0, 1, 2, 3] [] rfl (by kernel_rfl) (by kernel_rfl) (by kernel_rfl) rfl rfl (wants_none rfl) rfl (ex_move rfl) ?_
                          refine JP_take (i := 2) [0, 1, 2, 3] [] rfl (by kernel_rfl) (by kernel_rfl) (by kernel_rfl) rfl rfl (wants_none rfl) rfl (ex_nilCheck rfl) ?_
                          refine JP_take (i := 3) [0, 1, 2, 3] [] rfl (by kernel_rfl) (by kernel_rfl) (by kernel_rfl) rfl rfl (wants_none rfl) rfl (ex_fieldAddr fi_98_2 rfl rfl) ?_
                          refine JP_take (i := 4) [0, 1, 2, 3] [] rfl (by kernel_rfl) (by kernel_rfl) (by kernel_rfl) rfl rfl (wants_none rfl) rfl (ex_load_bx 2 ti_4 rfl rfl rfl) ?_
                          refine JP_take (i := 5) [0, 1, 2, 3] [] rfl (by kernel_rfl) (by kernel_rfl) (by kernel_rfl) rfl rfl (wants_none rfl) rfl (ex_assign rfl) ?_
                          refine JP_take (i := 6) [0, 1, 2, 3] [] rfl (by kernel_rfl) (by kernel_rfl) (by kernel_rfl) rfl rfl (wants_none rfl) rfl (ex_assign rfl) ?_
                          refine JP_take (i := 7) [0, 1, 2, 3] [] rfl (by kernel_rfl) (by kernel_rfl) (by kernel_rfl) rfl rfl (wants_none rfl) rfl (ex_assign rfl) ?_
                          refine JP_go [] [] rfl rfl rfl (fun _ _ _ => ?_)
                          refine JD_done (by kernel_rfl) ?_
                          refine N_then ?_
                          refine J_ret ?_
                          exact N_ret3 rfl (rv_tmp rfl) (rv_tmp rfl) (rv_tmp rfl) (fun w hh => ⟨g192, rfl, hh.sel [3] rfl⟩)
                      · refine J_skip ?_
                        refine N_block ?_
                        refine N_then ?_
                        refine J_region ?_
                        refine JL_q (wants_none rfl) rfl (ex_add rfl rfl) ?_
                        refine JL_q (wants_none rfl) rfl (ex_move rfl) ?_
                        refine JL_nil ?_
                        exact N_next' v188 ⟨rfl, rfl, rfl, rfl, rfl, rfl, rfl, trivial⟩ [4, 5, 6, 7, 8] rfl rfl
                  · refine J_skip ?_
                    refine N_inl0 (.inr rfl) hK155 rfl ?_
                    refine JL_nil ?_
                    refine N_then ?_
                    refine J_seq ?_
                    refine J_region ?_
                    refine JL_q (wants_none rfl) rfl (ex_move rfl) ?_
                    refine JL_q (wants_none rfl) rfl (ex_nilCheck rfl) ?_
                    refine JL_q (wants_none rfl) rfl (ex_fieldAddr fi_98_0 rfl rfl) ?_
                    refine JL_q (wants_none rfl) rfl (ex_load_bx 6 ti_95 rfl rfl rfl) ?_
                    refine JL_q (wants_none rfl) rfl (ex_len_ow 4 Try.underlying95 rfl rfl) ?_
                    refine JL_q (wants_none rfl) rfl (ex_eql rfl rfl) ?_
                    refine JL_nil ?_
                    refine N_then ?_
                    refine J_if rfl (fun h204 => ?_) (fun h204 => ?_)
                    · refine J_seq ?_
                      refine J_region ?_
                      refine JL_q (wants_none rfl) rfl (ex_move rfl) ?_
                      refine JL_q (wants_none rfl) rfl (ex_nilCheck rfl) ?_
                      refine JL_q (wants_none rfl) rfl (ex_fieldAddr fi_98_2 rfl rfl) ?_
                      refine JL_sk (wants_none rfl) (sk_store_bx' 6 ti_4 rfl rfl (fun w hh => cv_bool) rfl rfl rfl rfl) ?_
                      refine JL_nil ?_
                      refine N_then ?_
                      refine J_seq ?_
                      refine J_region ?_
                      refine JL_q (wants_none rfl) rfl (ex_move rfl) ?_
                      refine JL_q (wants_none rfl) rfl (ex_assign rfl) ?_
                      refine JL_nil ?_
                      refine N_then ?_
                      refine J_ret ?_
                      refine N_block_ret ?_
                      refine N_then_ret ?_
                      refine N_round_ret ?_
                      refine N_block_ret ?_
                      refine N_then_ret ?_
                      refine N_round_reti ?_
                      refine N_then_ret ?_
                      refine N_inl1 hK5 rfl (rv_tmp rfl) ?_
                      refine JL_st (wants_none rfl) rfl (st_buildSlice_od (vs := []) (B := ([] : List Nat)) ([] : List (List Int)) [] Try.underlying33 ti_23 zi_23 rfl rfl rfl rfl rfl (fun w hh => dwv_nil)) (fun b205 => ?_)
                      refine JL_q (wants_none rfl) rfl (ex_assign rfl) ?_
                      refine JL_q (wants_none rfl) rfl (ex_assign rfl) ?_
                      refine JL_nil ?_
                      refine N_then ?_
                      refine J_seq ?_
                      refine J_seq ?_
                      refine J_region ?_
                      refine JL_q (wants_none rfl) rfl (ex_move rfl) ?_
                      refine JL_q (wants_none rfl) rfl (ex_nilCheck rfl) ?_
                      refine JL_q (wants_none rfl) rfl (ex_fieldAddr fi_98_0 rfl rfl) ?_
                      refine JL_q (wants_none rfl) rfl (ex_load_bx 7 ti_95 rfl rfl rfl) ?_
                      refine JL_q (wants_none rfl) rfl (ex_len_ow 5 Try.underlying95 rfl rfl) ?_
                      refine JL_q (wants_none rfl) rfl (ex_move rfl) ?_
                      refine JL_nil ?_
                      refine N_then ?_
                      refine J_ctx (fun w hh => hh.od_ow 0 rfl) ?_
                      refine J_loop' (S := (List (List Int)) × Int) (G := Value) (F_impl_ReachWords_L4 s146) (fun s206 g207 => [(10, .pointer (some ⟨b7, 0, none⟩)), (11, g207), (30, g147), (31, .int .i64 (s146.1.length : Int)), (32, .int .i64 s206.2)]) (fun s206 g207 => [.ow 102 g147 s146.1, mpf Value.string (Value.int .i64) b6 s146.2.1, .bx b7 98 [g147, .map (some b6), .bool false], .ow 23 g207 s206.1]) (([] : List (List Int)), 0) (.slice (some ⟨b205, 0, none⟩) 0 0) ⟨rfl, rfl, rfl, rfl, rfl, trivial⟩ [5, 6, 7, 0] rfl rfl (fun s206 g207 => ?_) (fun s206 g207 => ?_)
                      · unfold F_impl_ReachWords_L4
                        refine J_seq ?_
                        refine J_region ?_
                        refine JL_q (wants_none rfl) rfl (ex_lss rfl rfl) ?_
                        refine JL_nil ?_
                        refine N_then ?_
                        refine J_seq ?_
                        refine J_if rfl (fun h208 => ?_) (fun h208 => ?_)
                        · refine J_skip ?_
                          refine N_then ?_
                          refine J_seq ?_
                          refine J_block ?_
                          refine J_seq ?_
                          refine J_region ?_
                          refine JL_bnd fun y209 hy210 => ?_
                          refine JL_ow_open (v := g147) 0 rfl hy210 ?_; rintro b211 cap212 rfl
                          refine JL_q (wants_none rfl) rfl (ex_index_ow 0 Try.underlying95 ti_102 rfl rfl rfl hy210) ?_
                          refine JL_st (wants_none rfl) rfl (st_load_ow_o 0 (Gfound.opens _) ti_102 rfl rfl hy210) (fun v213 => ?_)
                          refine JL_st (wants_none rfl) rfl (st_alloc zi_102 rfl) (fun b214 => ?_)
                          refine JL_sk (wants_none rfl) (sk_store_bx' 0 ti_102 rfl rfl (fun w hh => (cv_aggs ⟨cv_int, cv_int, (hh.cv 1 rfl), cv_int, trivial⟩)) rfl rfl rfl rfl) ?_
                          refine JL_nil ?_
                          refine N_then ?_
                          refine J_region ?_
                          refine JL_q (wants_none rfl) rfl (ex_move rfl) ?_
                          refine JL_q (wants_none rfl) rfl (ex_fieldAddr fi_102_0 rfl rfl) ?_
                          refine JL_q (wants_none rfl) rfl (ex_fieldAddr fi_100_2 rfl rfl) ?_
                          refine JL_q (wants_none rfl) rfl (ex_load_bx 0 ti_23 rfl rfl rfl) ?_
                          refine JL_st (wants_none rfl) rfl (st_buildSlice (vs := [v213]) ([y209.move_word] : List (List Int)) Try.underlying33 ti_23 zi_23 rfl rfl rfl (fun w hh => ⟨(hh.rd 1 rfl), trivial⟩)) (fun b215 => ?_)
                          refine JL_bnd fun z216 hz217 => ?_
                          refine JL_st (wants_none rfl) rfl (st_append 6 Try.underlying33 ti_23 zi_23 rfl bi_23 rfl rfl rfl rfl (fun w hh => hh.src_ow 0 rfl) hz217) (fun v218 => ?_)
                          refine JL_q (wants_none rfl) rfl (ex_assign rfl) ?_
                          refine JL_nil ?_
                          refine N_block ?_
                          refine N_then ?_
                          refine J_region ?_
                          refine JL_q (wants_none rfl) rfl (ex_add rfl rfl) ?_
                          refine JL_q (wants_none rfl) rfl (ex_move rfl) ?_
                          refine JL_nil ?_
                          exact N_next' v218 ⟨rfl, rfl, rfl, rfl, rfl, trivial⟩ [3, 4, 5, 6] rfl rfl
                        · refine J_exit ?_
                          refine N_then_exit ?_
                          exact N_break' g207 ⟨rfl, rfl, rfl, rfl, rfl, trivial⟩ [0, 1, 2, 3] rfl rfl
                      · refine N_then ?_
                        refine J_seq ?_
                        refine J_draw [] (by kernel_rfl) ?_
                        refine JP_take (i := 0) [0, 1, 2, 3] [] rfl (by kernel_rfl) (by kernel_rfl) (by kernel_rfl) rfl rfl (wants_none rfl) rfl (ex_move rfl) ?_
                        refine JP_take (i := 1) [0, 1, 2, 3] [] rfl (by kernel_rfl) (by kernel_rfl) (by kernel_rfl) rfl rfl (wants_none rfl) rfl (ex_move rfl) ?_
                        refine JP_take (i := 2) [0, 1, 2, 3] [] rfl (by kernel_rfl) (by kernel_rfl) (by kernel_rfl) rfl rfl (wants_none rfl) rfl (ex_nilCheck rfl) ?_
                        refine JP_take (i := 3) [0, 1, 2, 3] [] rfl (by kernel_rfl) (by kernel_rfl) (by kernel_rfl) rfl rfl (wants_none rfl) rfl (ex_fieldAddr fi_98_2 rfl rfl) ?_
                        refine JP_take (i := 4) [0, 1, 2, 3] [] rfl (by kernel_rfl) (by kernel_rfl) (by kernel_rfl) rfl rfl (wants_none rfl) rfl (ex_load_bx 2 ti_4 rfl rfl rfl) ?_
                        refine JP_take (i := 5) [0, 1, 2, 3] [] rfl (by kernel_rfl) (by kernel_rfl) (by kernel_rfl) rfl rfl (wants_none rfl) rfl (ex_assign rfl) ?_
                        refine JP_take (i := 6) [0, 1, 2, 3] [] rfl (by kernel_rfl) (by kernel_rfl) (by kernel_rfl) rfl rfl (wants_none rfl) rfl (ex_assign rfl) ?_
                        refine JP_take (i := 7) [0, 1, 2, 3] [] rfl (by kernel_rfl) (by kernel_rfl) (by kernel_rfl) rfl rfl (wants_none rfl) rfl (ex_assign rfl) ?_
                        refine JP_go [] [] rfl rfl rfl (fun _ _ _ => ?_)
                        refine JD_done (by kernel_rfl) ?_
                        refine N_then ?_
                        refine J_ret ?_
                        exact N_ret3 rfl (rv_tmp rfl) (rv_tmp rfl) (rv_tmp rfl) (fun w hh => ⟨g207, rfl, hh.sel [3] rfl⟩)
                    · refine J_skip ?_
                      refine N_block ?_
                      refine N_then ?_
                      refine J_region ?_
                      refine JL_q (wants_none rfl) rfl (ex_add rfl rfl) ?_
                      refine JL_q (wants_none rfl) rfl (ex_move rfl) ?_
                      refine JL_nil ?_
                      exact N_next' g147 ⟨rfl, rfl, rfl, rfl, rfl, rfl, rfl, trivial⟩ [3, 4, 5, 6, 7] rfl rfl
                · refine J_exit ?_
                  refine N_then_exit ?_
                  exact N_break' g147 ⟨rfl, rfl, rfl, rfl, rfl, rfl, rfl, trivial⟩ [0, 1, 2, 3, 4] rfl rfl
              · refine N_block ?_
                refine N_then ?_
                refine J_region ?_
                refine JL_q (wants_none rfl) rfl (ex_move rfl) ?_
                refine JL_q (wants_none rfl) rfl (ex_add rfl rfl) ?_
                refine JL_q (wants_none rfl) rfl (ex_assign rfl) ?_
                refine JL_nil ?_
                exact N_next' g147 ⟨rfl, rfl, rfl, rfl, trivial⟩ [0, 1, 2, 3] rfl rfl
        · refine J_exit ?_
          refine N_then_exit ?_
          exact N_break' g132 ⟨rfl, rfl, rfl, rfl, trivial⟩ [0, 1, 2, 3] rfl rfl
      · refine N_then ?_
        refine J_seq ?_
        refine J_region ?_
        refine JL_q (wants_none rfl) rfl (ex_move rfl) ?_
        refine JL_q (wants_none rfl) rfl (ex_assign rfl) ?_
        refine JL_nil ?_
        refine N_then ?_
        refine J_ret ?_
        refine N_inl1 hK5 rfl (rv_tmp rfl) ?_
        refine JL_st (wants_none rfl) rfl (st_buildSlice_od (vs := []) (B := ([] : List Nat)) ([] : List (List Int)) [] Try.underlying33 ti_23 zi_23 rfl rfl rfl rfl rfl (fun w hh => dwv_nil)) (fun b219 => ?_)
        refine JL_q (wants_none rfl) rfl (ex_assign rfl) ?_
        refine JL_q (wants_none rfl) rfl (ex_assign rfl) ?_
        refine JL_nil ?_
        refine N_then ?_
        refine J_seq ?_
        refine J_seq ?_
        refine J_region ?_
        refine JL_q (wants_none rfl) rfl (ex_move rfl) ?_
        refine JL_q (wants_none rfl) rfl (ex_nilCheck rfl) ?_
        refine JL_q (wants_none rfl) rfl (ex_fieldAddr fi_98_0 rfl rfl) ?_
        refine JL_q (wants_none rfl) rfl (ex_load_bx 4 ti_95 rfl rfl rfl) ?_
        refine JL_q (wants_none rfl) rfl (ex_len_ow 2 Try.underlying95 rfl rfl) ?_
        refine JL_q (wants_none rfl) rfl (ex_move rfl) ?_
        refine JL_nil ?_
        refine N_then ?_
        refine J_ctx (fun w hh => hh.od_ow 0 rfl) ?_
        refine J_loop' (S := (List (List Int)) × Int) (G := Value) (F_impl_ReachWords_L5 s131) (fun s220 g221 => [(10, .pointer (some ⟨b7, 0, none⟩)), (11, g221), (30, g132), (31, .int .i64 (s131.1.length : Int)), (32, .int .i64 s220.2)]) (fun s220 g221 => [.ow 102 g132 s131.1, mpf Value.string (Value.int .i64) b6 s131.2.1, .bx b7 98 [g132, .map (some b6), .bool s131.2.2.1], .ow 23 g221 s220.1]) (([] : List (List Int)), 0) (.slice (some ⟨b219, 0, none⟩) 0 0) ⟨rfl, rfl, rfl, rfl, rfl, trivial⟩ [2, 3, 4, 0] rfl rfl (fun s220 g221 => ?_) (fun s220 g221 => ?_)
        · unfold F_impl_ReachWords_L5
          refine J_seq ?_
          refine J_region ?_
          refine JL_q (wants_none rfl) rfl (ex_lss rfl rfl) ?_
          refine JL_nil ?_
          refine N_then ?_
          refine J_seq ?_
          refine J_if rfl (fun h222 => ?_) (fun h222 => ?_)
          · refine J_skip ?_
            refine N_then ?_
            refine J_seq ?_
            refine J_block ?_
            refine J_seq ?_
            refine J_region ?_
            refine JL_bnd fun y223 hy224 => ?_
            refine JL_ow_open (v := g132) 0 rfl hy224 ?_; rintro b225 cap226 rfl
            refine JL_q (wants_none rfl) rfl (ex_index_ow 0 Try.underlying95 ti_102 rfl rfl rfl hy224) ?_
            refine JL_st (wants_none rfl) rfl (st_load_ow_o 0 (Gfound.opens _) ti_102 rfl rfl hy224) (fun v227 => ?_)
            refine JL_st (wants_none rfl) rfl (st_alloc zi_102 rfl) (fun b228 => ?_)
            refine JL_sk (wants_none rfl) (sk_store_bx' 0 ti_102 rfl rfl (fun w hh => (cv_aggs ⟨cv_int, cv_int, (hh.cv 1 rfl), cv_int, trivial⟩)) rfl rfl rfl rfl) ?_
            refine JL_nil ?_
            refine N_then ?_
            refine J_region ?_
            refine JL_q (wants_none rfl) rfl (ex_move rfl) ?_
            refine JL_q (wants_none rfl) rfl (ex_fieldAddr fi_102_0 rfl rfl) ?_
            refine JL_q (wants_none rfl) rfl (ex_fieldAddr fi_100_2 rfl rfl) ?_
            refine JL_q (wants_none rfl) rfl (ex_load_bx 0 ti_23 rfl rfl rfl) ?_
            refine JL_st (wants_none rfl) rfl (st_buildSlice (vs := [v227]) ([y223.move_word] : List (List Int)) Try.underlying33 ti_23 zi_23 rfl rfl rfl (fun w hh => ⟨(hh.rd 1 rfl), trivial⟩)) (fun b229 => ?_)
            refine JL_bnd fun z230 hz231 => ?_
            refine JL_st (wants_none rfl) rfl (st_append 6 Try.underlying33 ti_23 zi_23 rfl bi_23 rfl rfl rfl rfl (fun w hh => hh.src_ow 0 rfl) hz231) (fun v232 => ?_)
            refine JL_q (wants_none rfl) rfl (ex_assign rfl) ?_
            refine JL_nil ?_
            refine N_block ?_
            refine N_then ?_
            refine J_region ?_
            refine JL_q (wants_none rfl) rfl (ex_add rfl rfl) ?_
            refine JL_q (wants_none rfl) rfl (ex_move rfl) ?_
            refine JL_nil ?_
            exact N_next' v232 ⟨rfl, rfl, rfl, rfl, rfl, trivial⟩ [3, 4, 5, 6] rfl rfl
          · refine J_exit ?_
            refine N_then_exit ?_
            exact N_break' g221 ⟨rfl, rfl, rfl, rfl, rfl, trivial⟩ [0, 1, 2, 3] rfl rfl
        · refine N_then ?_
          refine J_seq ?_
          refine J_draw [] (by kernel_rfl) ?_
          refine JP_take (i := 0) [0, 1, 2, 3] [] rfl (by kernel_rfl) (by kernel_rfl) (by kernel_rfl) rfl rfl (wants_none rfl) rfl (ex_move rfl) ?_
          refine JP_take (i := 1) [0, 1, 2, 3] [] rfl (by kernel_rfl) (by kernel_rfl) (by kernel_rfl) rfl rfl (wants_none rfl) rfl (ex_move rfl) ?_
          refine JP_take (i := 2) [0, 1, 2, 3] [] rfl (by kernel_rfl) (by kernel_rfl) (by kernel_rfl) rfl rfl (wants_none rfl) rfl (ex_nilCheck rfl) ?_
          refine JP_take (i := 3) [0, 1, 2, 3] [] rfl (by kernel_rfl) (by kernel_rfl) (by kernel_rfl) rfl rfl (wants_none rfl) rfl (ex_fieldAddr fi_98_2 rfl rfl) ?_
          refine JP_take (i := 4) [0, 1, 2, 3] [] rfl (by kernel_rfl) (by kernel_rfl) (by kernel_rfl) rfl rfl (wants_none rfl) rfl (ex_load_bx 2 ti_4 rfl rfl rfl) ?_
          refine JP_take (i := 5) [0, 1, 2, 3] [] rfl (by kernel_rfl) (by kernel_rfl) (by kernel_rfl) rfl rfl (wants_none rfl) rfl (ex_assign rfl) ?_
          refine JP_take (i := 6) [0, 1, 2, 3] [] rfl (by kernel_rfl) (by kernel_rfl) (by kernel_rfl) rfl rfl (wants_none rfl) rfl (ex_assign rfl) ?_
          refine JP_take (i := 7) [0, 1, 2, 3] [] rfl (by kernel_rfl) (by kernel_rfl) (by kernel_rfl) rfl rfl (wants_none rfl) rfl (ex_assign rfl) ?_
          refine JP_go [] [] rfl rfl rfl (fun _ _ _ => ?_)
          refine JD_done (by kernel_rfl) ?_
          refine N_then ?_
          refine J_ret ?_
          exact N_ret3 rfl (rv_tmp rfl) (rv_tmp rfl) (rv_tmp rfl) (fun w hh => ⟨g221, rfl, hh.sel [3] rfl⟩)

end Go.Proofs.Ythmompdfapcgkaa
