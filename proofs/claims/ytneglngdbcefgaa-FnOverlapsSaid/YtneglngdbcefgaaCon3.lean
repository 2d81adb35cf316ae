/-
  Each function of the program computes what its plain function says: printed by program. No condition.
-/
import Derived.Test.YtneglngdbcefgaaFn
import Derived.Test.YtneglngdbcefgaaInf
import Derived.Test.YtneglngdbcefgaaCon2
namespace Go.Proofs.Ytneglngdbcefgaa
open Go Go.Tc Go.Fn
set_option linter.unusedVariables false

set_option maxHeartbeats 40000000 in
theorem c_impl_replaced (A : Nat → Prop) (w : World) (hA : ∀ k, A k → k < w.heap.size) (v0_ : Value) (p0 : (List Int)) (hp0 : Rd A w v0_ p0) (p1 : Int) (p2 : Int) (v3_ : Value) (p3 : (List Int)) (hp3 : Rd A w v3_ p3) (r : (List Int)) (hr : F_impl_replaced p0 p1 p2 p3 = some r) :
    Con Try.prog 101 [v0_, .int .i64 p1, .int .i64 p2, v3_] A w (fun x_ : Value => x_) (fun x_ => [.ow 2 x_ r]) := by
  refine Con_of (v := fun (r : (List Int)) (x_ : Value) => x_) (fs := fun r x_ => [.ow 2 x_ r]) Try.func101 rfl Try.ntmps101 rfl (((SH.start hA).start_rd rfl hp0).start_rd rfl hp3) rfl ?_ hr
  unfold F_impl_replaced
  refine J_seq ?_
  refine J_region ?_
  refine JL_q (wants_none rfl) rfl (ex_assign rfl) ?_
  refine JL_nil ?_
  refine N_then ?_
  refine J_seq ?_
  refine J_draw [] (by kernel_rfl) ?_
  refine JP_take (i := 0) [0, 1] [] rfl (by kernel_rfl) (by kernel_rfl) (by kernel_rfl) rfl rfl (wants_none rfl) rfl (ex_move rfl) ?_
  refine JP_take (i := 1) [0, 1] [] rfl (by kernel_rfl) (by kernel_rfl) (by kernel_rfl) rfl rfl (wants_none rfl) rfl (ex_move rfl) ?_
  refine JP_bnd fun z1 hz2 => ?_
  refine JP_sq (i := 2) [] rfl (by kernel_rfl) (by kernel_rfl) (by kernel_rfl) rfl (wants_none rfl) rfl (sq_slice 1 Try.underlying23 ti_2 rfl rfl rfl rfl hz2) (fun v3 => ?_)
  refine JP_take (i := 3) [0, 1, 2] [] rfl (by kernel_rfl) (by kernel_rfl) (by kernel_rfl) rfl rfl (wants_none rfl) rfl (ex_move rfl) ?_
  refine JP_take (i := 4) [0, 1, 2] [] rfl (by kernel_rfl) (by kernel_rfl) (by kernel_rfl) rfl rfl (wants_none rfl) rfl (ex_move rfl) ?_
  refine JP_take (i := 5) [0, 1, 2] [] rfl (by kernel_rfl) (by kernel_rfl) (by kernel_rfl) rfl rfl (wants_none rfl) rfl (ex_move rfl) ?_
  refine JP_take (i := 6) [0, 1, 2] [] rfl (by kernel_rfl) (by kernel_rfl) (by kernel_rfl) rfl rfl (wants_none rfl) rfl (ex_move rfl) ?_
  refine JP_take (i := 7) [0, 1, 2] [] rfl (by kernel_rfl) (by kernel_rfl) (by kernel_rfl) rfl rfl (wants_none rfl) rfl (ex_add rfl rfl) ?_
  refine JP_bnd fun z4 hz5 => ?_
  refine JP_sq (i := 8) [] rfl (by kernel_rfl) (by kernel_rfl) (by kernel_rfl) rfl (wants_none rfl) rfl (sq_slice 2 Try.underlying23 ti_2 rfl rfl rfl rfl hz5) (fun v6 => ?_)
  refine JP_go [0, 1, 2, 3] [] rfl rfl rfl (fun w8 h1_9 hp7 => ?_)
  refine JD_one (i := 9) (by kernel_rfl) ?_
  refine JO_st rfl (wants_none rfl) rfl (st_buildSlice (vs := [v3, v3_, v6]) ([z1, p3, z4] : List (List Int)) Try.underlying25 ti_23 zi_23 rfl rfl rfl (fun w hh => ⟨(hh.rd 1 rfl), (hh.rd 2 rfl), (hh.rd 0 rfl), trivial⟩)) (fun _ hk => nomatch hk) (fun b10 => ?_)
  refine JD_bnd fun r11 hr12 => ?_
  refine JD_one (i := 10) (by kernel_rfl) ?_
  refine JO_call rfl (wants_none rfl) rfl Try.call96 rfl (Ca_self (fun _ => rfl) fun w hh => c_impl_joined _ w (fun _ hk => hk.elim) _ _ (hh.ow0 0 rfl) _ hr12) (fun x13 => ?_)
  refine JD_take (i := 11) hp7 rfl (by kernel_rfl) (by kernel_rfl) (by kernel_rfl) (wants_none rfl) rfl (ex_assign rfl) ?_
  refine JD_done (by kernel_rfl) ?_
  refine N_then ?_
  refine J_ret ?_
  exact N_ret1 rfl (rv_tmp rfl) (fun w hh => ⟨x13, rfl, hh.sel [0] rfl⟩)

set_option maxHeartbeats 40000000 in
theorem c_impl_fitting (A : Nat → Prop) (w : World) (hA : ∀ k, A k → k < w.heap.size) (v0_ : Value) (p0 : (List Int)) (hp0 : Rd A w v0_ p0) (r : (List Int) × Int) (hr : F_impl_fitting p0 = some r) :
    Con Try.prog 100 [v0_] A w (fun x_ : Value => .tuple #[x_, .int .i64 r.2]) (fun x_ => [.pr (Sub v0_ p0 x_ r.1)]) := by
  refine Con_of (v := fun (r : (List Int) × Int) (x_ : Value) => .tuple #[x_, .int .i64 r.2]) (fs := fun r x_ => [.pr (Sub v0_ p0 x_ r.1)]) Try.func100 rfl Try.ntmps100 rfl ((SH.start hA).start_rd rfl hp0) rfl ?_ hr
  unfold F_impl_fitting
  refine J_seq ?_
  refine J_region ?_
  refine JL_q (wants_none rfl) rfl (ex_assign rfl) ?_
  refine JL_q (wants_none rfl) rfl (ex_assign rfl) ?_
  refine JL_nil ?_
  refine N_then ?_
  refine J_seq ?_
  refine J_seq ?_
  refine J_region ?_
  refine JL_q (wants_none rfl) rfl (ex_move rfl) ?_
  refine JL_q (wants_none rfl) rfl (ex_len_rd 0 Try.underlying23 rfl rfl) ?_
  refine JL_q (wants_none rfl) rfl (ex_gtr rfl rfl) ?_
  refine JL_nil ?_
  refine N_then ?_
  refine J_if rfl (fun h1 => ?_) (fun h1 => ?_)
  · refine J_seq ?_
    refine J_region ?_
    refine JL_q (wants_none rfl) rfl (ex_assign rfl) ?_
    refine JL_q (wants_none rfl) rfl (ex_assign rfl) ?_
    refine JL_nil ?_
    refine N_then ?_
    refine J_ret ?_
    refine N_then_ret ?_
    refine N_ctx (fun w hh => hh.cons_pr (p := Sub v0_ p0 (.slice none 0 0) ([] : (List Int))) Sub.nil) ?_
    exact N_ret2 rfl (rv_tmp rfl) (rv_tmp rfl) (fun w hh => ⟨(.slice none 0 0 : Value), rfl, hh.sel [0] rfl⟩)
  · refine J_skip ?_
    refine N_then ?_
    refine J_seq ?_
    refine J_region ?_
    refine JL_q (wants_none rfl) rfl (ex_move rfl) ?_
    refine JL_q (wants_none rfl) rfl (ex_assign rfl) ?_
    refine JL_q (wants_none rfl) rfl (ex_assign rfl) ?_
    refine JL_nil ?_
    refine N_then ?_
    refine J_ret ?_
    refine N_ctx (fun w hh => hh.cons_pr (p := Sub v0_ p0 v0_ p0) Sub.refl) ?_
    exact N_ret2 rfl (rv_tmp rfl) (rv_tmp rfl) (fun w hh => ⟨v0_, rfl, hh.sel [0] rfl⟩)

set_option maxHeartbeats 40000000 in
theorem c_impl_movesOf (A : Nat → Prop) (w : World) (hA : ∀ k, A k → k < w.heap.size) (v0_ : Value) (p0 : (List GRewrite)) (hp0 : Rd A w v0_ p0) (v1_ : Value) (p1 : (List Int)) (hp1 : Rd A w v1_ p1) (r : (List Gmove) × Bool) (hr : F_impl_movesOf p0 p1 = some r) :
    Con Try.prog 54 [v0_, v1_] A w (fun x_ : Value × List Nat => .tuple #[x_.1, .bool r.2]) (fun x_ => [.od 95 x_.1 r.1 x_.2]) := by
  refine Con_of (v := fun (r : (List Gmove) × Bool) (x_ : Value × List Nat) => .tuple #[x_.1, .bool r.2]) (fs := fun r x_ => [.od 95 x_.1 r.1 x_.2]) Try.func54 rfl Try.ntmps54 rfl (((SH.start hA).start_rd rfl hp0).start_rd rfl hp1) rfl ?_ hr
  unfold F_impl_movesOf
  refine J_seq ?_
  refine J_region ?_
  refine JL_q (wants_none rfl) rfl (ex_assign rfl) ?_
  refine JL_q (wants_none rfl) rfl (ex_assign rfl) ?_
  refine JL_nil ?_
  refine N_then ?_
  refine J_seq ?_
  refine J_region ?_
  refine JL_st (wants_none rfl) rfl (st_buildSlice_od (vs := []) (B := ([] : List Nat)) ([] : List Gmove) [] Try.underlying90 ti_95 zi_95 rfl rfl rfl rfl rfl (fun w hh => dwv_nil)) (fun b1 => ?_)
  refine JL_q (wants_none rfl) rfl (ex_assign rfl) ?_
  refine JL_q (wants_none rfl) rfl (ex_assign rfl) ?_
  refine JL_nil ?_
  refine N_then ?_
  refine J_seq ?_
  refine J_seq ?_
  refine J_region ?_
  refine JL_q (wants_none rfl) rfl (ex_move rfl) ?_
  refine JL_q (wants_none rfl) rfl (ex_len_rd 2 Try.underlying28 rfl rfl) ?_
  refine JL_q (wants_none rfl) rfl (ex_move rfl) ?_
  refine JL_nil ?_
  refine N_then ?_
  refine J_loop' (S := (List Gmove) × Bool × Int) (G := Value × List Nat) (F_impl_movesOf_L1 p0 p1) (fun s2 g3 => [(1, v1_), (6, g3.1), (7, .bool s2.2.1), (15, v0_), (16, .int .i64 (p0.length : Int)), (17, .int .i64 s2.2.2)]) (fun s2 g3 => [.rd v1_ p1, .od 95 g3.1 s2.1 g3.2, .rd v0_ p0]) (([] : List Gmove), false, 0) ((.slice (some ⟨b1, 0, none⟩) 0 0), ([] : List Nat)) ⟨rfl, rfl, rfl, rfl, rfl, rfl, trivial⟩ [1, 0, 2] rfl rfl (fun s2 g3 => ?_) (fun s2 g3 => ?_)
  · obtain ⟨g3_0, g3_1⟩ := g3
    unfold F_impl_movesOf_L1
    refine J_seq ?_
    refine J_region ?_
    refine JL_q (wants_none rfl) rfl (ex_lss rfl rfl) ?_
    refine JL_nil ?_
    refine N_then ?_
    refine J_seq ?_
    refine J_if rfl (fun h4 => ?_) (fun h4 => ?_)
    · refine J_skip ?_
      refine N_then ?_
      refine J_seq ?_
      refine J_block ?_
      refine J_seq ?_
      refine J_region ?_
      refine JL_q (wants_none rfl) rfl (ex_move rfl) ?_
      refine JL_bnd fun y5 hy6 => ?_
      refine JL_st (wants_none rfl) rfl (st_index 2 Try.underlying28 ti_80 rfl rfl rfl hy6) (fun q7 => ?_)
      refine JL_st (wants_none rfl) rfl (st_load_pt_o 0 (GRewrite.opens _) ti_80 rfl rfl) (fun v8 => ?_)
      refine JL_st (wants_none rfl) rfl (st_alloc zi_80 rfl) (fun b9 => ?_)
      refine JL_q (wants_none rfl) rfl (ex_assign rfl) ?_
      refine JL_sk (wants_none rfl) (sk_store_bx' 0 ti_80 rfl rfl (fun w hh => (cv_aggs ⟨(hh.cv 1 rfl), (hh.cv 2 rfl), trivial⟩)) rfl rfl rfl rfl) ?_
      refine JL_nil ?_
      refine N_then ?_
      refine J_seq ?_
      refine J_region ?_
      refine JL_q (wants_none rfl) rfl (ex_move rfl) ?_
      refine JL_q (wants_none rfl) rfl (ex_fieldAddr fi_80_0 rfl rfl) ?_
      refine JL_q (wants_none rfl) rfl (ex_load_bx 0 ti_23 rfl rfl rfl) ?_
      refine JL_bnd fun r10 hr11 => ?_
      refine JL_call (wants_none rfl) rfl Try.call90 rfl (Ca_self (fun _ => rfl) fun w hh => c_impl_occurrences _ w (fun _ hk => hk.elim) _ _ (hh.rd0 4 rfl) _ _ (hh.rd0 1 rfl) _ hr11) (fun x12 => ?_)
      refine JL_q (wants_none rfl) rfl (ex_len_ow 0 Try.underlying23 rfl rfl) ?_
      refine JL_q (wants_none rfl) rfl (ex_move rfl) ?_
      refine JL_nil ?_
      refine N_then ?_
      refine J_loop' (S := (List Gmove) × Bool × Int) (G := Value × List Nat) (F_impl_movesOf_L2 p1 s2 y5 r10) (fun s13 g14 => [(1, v1_), (6, g14.1), (7, .bool s13.2.1), (8, .int .i64 s2.2.2), (9, .pointer (some ⟨b9, 0, none⟩)), (15, v0_), (16, .int .i64 (p0.length : Int)), (17, .int .i64 s2.2.2), (25, x12), (26, .int .i64 (r10.length : Int)), (27, .int .i64 s13.2.2)]) (fun s13 g14 => [.rd v1_ p1, .od 95 g14.1 s13.1 g14.2, .rd v8.1 y5.From, .rd v8.2 y5.To, .bx b9 80 [v8.1, v8.2], .rd v0_ p0, .ow 2 x12 r10]) (s2.1, s2.2.1, 0) (g3_0, g3_1) ⟨rfl, rfl, rfl, rfl, rfl, rfl, rfl, rfl, rfl, rfl, rfl, trivial⟩ [5, 6, 2, 3, 1, 7, 0] rfl rfl (fun s13 g14 => ?_) (fun s13 g14 => ?_)
      · obtain ⟨g14_0, g14_1⟩ := g14
        unfold F_impl_movesOf_L2
        refine J_seq ?_
        refine J_region ?_
        refine JL_q (wants_none rfl) rfl (ex_lss rfl rfl) ?_
        refine JL_nil ?_
        refine N_then ?_
        refine J_seq ?_
        refine J_if rfl (fun h15 => ?_) (fun h15 => ?_)
        · refine J_skip ?_
          refine N_then ?_
          refine J_seq ?_
          refine J_block ?_
          refine J_seq ?_
          refine J_region ?_
          refine JL_bnd fun y16 hy17 => ?_
          refine JL_ow_open (v := x12) 6 rfl hy17 ?_; rintro b18 cap19 rfl
          refine JL_q (wants_none rfl) rfl (ex_index_ow 6 Try.underlying23 ti_2 rfl rfl rfl hy17) ?_
          refine JL_q (wants_none rfl) rfl (ex_load_ow_int 6 ti_2 rfl rfl hy17) ?_
          refine JL_q (wants_none rfl) rfl (ex_assign rfl) ?_
          refine JL_nil ?_
          refine N_then ?_
          refine J_seq ?_
          refine J_region ?_
          refine JL_q (wants_none rfl) rfl (ex_move rfl) ?_
          refine JL_q (wants_none rfl) rfl (ex_move rfl) ?_
          refine JL_q (wants_none rfl) rfl (ex_fieldAddr fi_80_0 rfl rfl) ?_
          refine JL_q (wants_none rfl) rfl (ex_load_bx 4 ti_23 rfl rfl rfl) ?_
          refine JL_q (wants_none rfl) rfl (ex_len_rd 2 Try.underlying23 rfl rfl) ?_
          refine JL_q (wants_none rfl) rfl (ex_fieldAddr fi_80_1 rfl rfl) ?_
          refine JL_q (wants_none rfl) rfl (ex_load_bx 4 ti_23 rfl rfl rfl) ?_
          refine JL_bnd fun r21 hr22 => ?_
          refine JL_call (wants_none rfl) rfl Try.call101 rfl (Ca_self (fun _ => rfl) fun w hh => c_impl_replaced _ w (fun _ hk => hk.elim) _ _ (hh.rd0 0 rfl) _ _ _ _ (hh.rd0 3 rfl) _ hr22) (fun x23 => ?_)
          refine JL_bnd fun r24 hr25 => ?_
          refine JL_call (wants_none rfl) rfl Try.call100 rfl (Ca_self (fun _ => rfl) fun w hh => c_impl_fitting _ w (fun _ hk => hk.elim) _ _ (hh.ow0 0 rfl) _ hr25) (fun x26 => ?_)
          refine JL_ctx (fun w hh => hh.tokf 1 rfl rfl) ?_
          refine JL_ctx (fun w hh => hh.sub_rd 2 rfl (hh.pr 1 rfl)) ?_
          refine JL_ctx (fun w hh => hh.sub_tkn 1 rfl (hh.pr 2 rfl)) ?_
          refine JL_q (wants_none rfl) rfl (ex_move rfl) ?_
          refine JL_q (wants_none rfl) rfl (ex_extract rfl rfl) ?_
          refine JL_q (wants_none rfl) rfl (ex_extract rfl rfl) ?_
          refine JL_q (wants_none rfl) rfl (ex_assign rfl) ?_
          refine JL_q (wants_none rfl) rfl (ex_assign rfl) ?_
          refine JL_nil ?_
          refine N_then ?_
          refine J_seq ?_
          refine J_seq ?_
          refine J_region ?_
          refine JL_q (wants_none rfl) rfl (ex_move rfl) ?_
          refine JL_q (wants_none rfl) rfl (ex_neq rfl rfl) ?_
          refine JL_nil ?_
          refine N_then ?_
          refine J_if rfl (fun h27 => ?_) (fun h27 => ?_)
          · refine J_seq ?_
            refine J_region ?_
            refine JL_q (wants_none rfl) rfl (ex_assign rfl) ?_
            refine JL_nil ?_
            refine N_then ?_
            refine J_exit ?_
            refine N_then_exit ?_
            refine N_block_exit ?_
            refine N_then ?_
            refine J_region ?_
            refine JL_q (wants_none rfl) rfl (ex_add rfl rfl) ?_
            refine JL_q (wants_none rfl) rfl (ex_move rfl) ?_
            refine JL_nil ?_
            exact N_next' (g14_0, g14_1) ⟨rfl, rfl, rfl, rfl, rfl, rfl, rfl, rfl, rfl, rfl, rfl, trivial⟩ [4, 5, 6, 7, 8, 9, 10] rfl rfl
          · refine J_skip ?_
            refine N_then ?_
            refine J_region ?_
            refine JL_q (wants_none rfl) rfl (ex_move rfl) ?_
            refine JL_q (wants_none rfl) rfl (ex_move rfl) ?_
            refine JL_q (wants_none rfl) rfl (ex_move rfl) ?_
            refine JL_q (wants_none rfl) rfl (ex_move rfl) ?_
            refine JL_q (wants_none rfl) rfl (ex_build si_95 rfl (.cons fi_95_0 rfl rfl (.cons fi_95_1 rfl rfl (.cons fi_95_2 rfl rfl .nil))) (fun w hh => ⟨cv_int, cv_int, (hh.cv 0 rfl), trivial⟩)) ?_
            refine JL_st (wants_none rfl) rfl (st_buildSlice_od (vs := [.agg #[.int .i64 s2.2.2, .int .i64 y16, x26]]) (B := (((x23 : Value).ownBlock.toList ++ []) ++ [])) ([(⟨s2.2.2, y16, r24.1⟩ : Gmove)] : List Gmove) [1] Try.underlying90 ti_95 zi_95 rfl rfl rfl rfl rfl (fun w hh => (dwv_cons (Gmove.dw (hh.dw 1 rfl)) dwv_nil))) (fun b28 => ?_)
            refine JL_bnd fun z29 hz30 => ?_
            refine JL_st (wants_none rfl) rfl (st_append_od 6 0 Try.underlying90 ti_95 zi_95 rfl bi_95 rfl rfl rfl rfl rfl rfl hz30) (fun v31 => ?_)
            refine JL_q (wants_none rfl) rfl (ex_assign rfl) ?_
            refine JL_nil ?_
            refine N_block ?_
            refine N_then ?_
            refine J_region ?_
            refine JL_q (wants_none rfl) rfl (ex_add rfl rfl) ?_
            refine JL_q (wants_none rfl) rfl (ex_move rfl) ?_
            refine JL_nil ?_
            exact N_next' (v31, (g14_1 ++ (((x23 : Value).ownBlock.toList ++ []) ++ []))) ⟨rfl, rfl, rfl, rfl, rfl, rfl, rfl, rfl, rfl, rfl, rfl, trivial⟩ [5, 6, 7, 8, 9, 10, 11] rfl rfl
        · refine J_exit ?_
          refine N_then_exit ?_
          exact N_break' (g14_0, g14_1) ⟨rfl, rfl, rfl, rfl, rfl, rfl, rfl, rfl, rfl, rfl, rfl, trivial⟩ [0, 1, 2, 3, 4, 5, 6] rfl rfl
      · obtain ⟨g14_0, g14_1⟩ := g14
        refine N_block ?_
        refine N_then ?_
        refine J_region ?_
        refine JL_q (wants_none rfl) rfl (ex_add rfl rfl) ?_
        refine JL_q (wants_none rfl) rfl (ex_move rfl) ?_
        refine JL_nil ?_
        exact N_next' (g14_0, g14_1) ⟨rfl, rfl, rfl, rfl, rfl, rfl, trivial⟩ [0, 1, 5] rfl rfl
    · refine J_exit ?_
      refine N_then_exit ?_
      exact N_break' (g3_0, g3_1) ⟨rfl, rfl, rfl, rfl, rfl, rfl, trivial⟩ [0, 1, 2] rfl rfl
  · obtain ⟨g3_0, g3_1⟩ := g3
    refine N_then ?_
    refine J_seq ?_
    refine J_region ?_
    refine JL_q (wants_none rfl) rfl (ex_move rfl) ?_
    refine JL_q (wants_none rfl) rfl (ex_move rfl) ?_
    refine JL_q (wants_none rfl) rfl (ex_assign rfl) ?_
    refine JL_q (wants_none rfl) rfl (ex_assign rfl) ?_
    refine JL_nil ?_
    refine N_then ?_
    refine J_ret ?_
    exact N_ret2 rfl (rv_tmp rfl) (rv_tmp rfl) (fun w hh => ⟨(g3_0, g3_1), rfl, hh.sel [1] rfl⟩)

set_option maxHeartbeats 40000000 in
theorem c_impl_searched (A : Nat → Prop) (w : World) (hA : ∀ k, A k → k < w.heap.size) (v0_ : Value) (p0 : (List GRewrite)) (hp0 : Rd A w v0_ p0) (v1_ : Value) (p1 : (List Int)) (hp1 : Rd A w v1_ p1) (p2 : Int) (r : ((List Gfound) × (List (ByteArray × Int)) × Bool)) (hr : F_impl_searched p0 p1 p2 = some r) :
    Con Try.prog 58 [v0_, v1_, .int .i64 p2] A w (fun x_ : Value × List Nat × Nat × Nat => .pointer (some ⟨x_.2.2.1, 0, none⟩)) (fun x_ => [.od 147 x_.1 r.1 x_.2.1, .bx x_.2.2.1 103 [x_.1, .map (some x_.2.2.2), .bool r.2.2], mpf Value.string (Value.int .i64) x_.2.2.2 r.2.1]) := by
  refine Con_of (v := fun (r : ((List Gfound) × (List (ByteArray × Int)) × Bool)) (x_ : Value × List Nat × Nat × Nat) => .pointer (some ⟨x_.2.2.1, 0, none⟩)) (fs := fun r x_ => [.od 147 x_.1 r.1 x_.2.1, .bx x_.2.2.1 103 [x_.1, .map (some x_.2.2.2), .bool r.2.2], mpf Value.string (Value.int .i64) x_.2.2.2 r.2.1]) Try.func58 rfl Try.ntmps58 rfl (((SH.start hA).start_rd rfl hp0).start_rd rfl hp1) rfl ?_ hr
  unfold F_impl_searched
  refine J_seq ?_
  refine J_region ?_
  refine JL_q (wants_none rfl) rfl (ex_assign rfl) ?_
  refine JL_nil ?_
  refine N_then ?_
  refine J_seq ?_
  refine J_region ?_
  refine JL_st (wants_none rfl) rfl (st_makeMap (κ := ByteArray) (ν := Int) (enc := Value.string) (venc := (Value.int .i64))) (fun b1 => ?_)
  refine JL_q (wants_none rfl) rfl (ex_build si_103 rfl (.cons fi_103_1 rfl rfl (.cons fi_103_2 rfl rfl .nil)) (fun w hh => ⟨cv_map, cv_bool, trivial⟩)) ?_
  refine JL_st (wants_none rfl) rfl (st_box' rfl (fun w hh => (cv_aggs ⟨cv_slice, cv_map, cv_bool, trivial⟩))) (fun b2 => ?_)
  refine JL_q (wants_none rfl) rfl (ex_assign rfl) ?_
  refine JL_nil ?_
  refine N_then ?_
  refine J_seq ?_
  refine J_region ?_
  refine JL_q (wants_none rfl) rfl (ex_move rfl) ?_
  refine JL_q (wants_none rfl) rfl (ex_move rfl) ?_
  refine JL_bnd fun r3 hr4 => ?_
  refine JL_call (wants_none rfl) rfl Try.call104 rfl (Ca_self (fun _ => rfl) fun w hh => c_slices_Clone_Sint64_int64 _ w (fun _ hk => hk.elim) _ _ (hh.rd0 2 rfl) _ hr4) (fun x5 => ?_)
  refine JL_q (wants_none rfl) rfl (ex_build si_95 rfl (.cons fi_95_2 rfl rfl .nil) (fun w hh => ⟨(hh.cv_ow 0 rfl), trivial⟩)) ?_
  refine JL_q (wants_none rfl) rfl (ex_buildN [(0, .agg #[.int .i64 0, .int .i64 0, x5], [.int .i64 0, .int .i64 0, x5]), (1, .int .i64 (-1), [.int .i64 (-1)])] si_147 rfl (.cons fi_147_0 rfl rfl rfl (.cons fi_147_1 rfl rfl rfl .nil)) (fun w hh => ⟨(cv_aggs ⟨cv_int, cv_int, (hh.cv_ow 0 rfl), trivial⟩), cv_int, trivial⟩)) ?_
  refine JL_inline (wants_none rfl) rfl Try.call103 rfl Try.func103 rfl Try.ntmps103 rfl rfl (fun K_ hK6 => ?_)
  refine J_seq ?_
  refine J_region ?_
  refine JL_st (wants_none rfl) rfl (st_box' rfl (fun w hh => (cv_aggs ⟨cv_int, cv_int, (hh.cv_ow 0 rfl), cv_int, trivial⟩))) (fun b7 => ?_)
  refine JL_nil ?_
  refine N_then ?_
  refine J_seq ?_
  refine J_region ?_
  refine JL_q (wants_none rfl) rfl (ex_fieldAddr fi_147_0 rfl rfl) ?_
  refine JL_q (wants_none rfl) rfl (ex_fieldAddr fi_95_2 rfl rfl) ?_
  refine JL_q (wants_none rfl) rfl (ex_load_bx 0 ti_23 rfl rfl rfl) ?_
  refine JL_bnd fun r8 hr9 => ?_
  refine JL_call (wants_none rfl) rfl Try.call55 rfl (Ca_of0 fun w hh => c_impl_keyOf _ w (fun _ hk => hk.elim) _ _ (hh.ow0 1 rfl) _ hr9) (fun _ => ?_)
  refine JL_q (wants_none rfl) rfl (ex_assign rfl) ?_
  refine JL_nil ?_
  refine N_then ?_
  refine J_seq ?_
  refine J_region ?_
  refine JL_q (wants_none rfl) rfl (ex_move rfl) ?_
  refine JL_q (wants_none rfl) rfl (ex_nilCheck rfl) ?_
  refine JL_q (wants_none rfl) rfl (ex_fieldAddr fi_103_1 rfl rfl) ?_
  refine JL_q (wants_none rfl) rfl (ex_load_bx 2 ti_101 rfl rfl rfl) ?_
  refine JL_q (wants_none rfl) rfl (ex_move rfl) ?_
  refine JL_q (wants_none rfl) rfl (ex_lookup_ok (x := r8) (z := 0) 3 key_9 Try.underlying101 zi_3 rfl rfl rfl rfl rfl) ?_
  refine JL_q (wants_none rfl) rfl (ex_move rfl) ?_
  refine JL_q (wants_none rfl) rfl (ex_extract rfl rfl) ?_
  refine JL_q (wants_none rfl) rfl (ex_extract rfl rfl) ?_
  refine JL_q (wants_none rfl) rfl (ex_assign rfl) ?_
  refine JL_q (wants_none rfl) rfl (ex_assign rfl) ?_
  refine JL_nil ?_
  refine N_then ?_
  refine J_seq ?_
  refine J_region ?_
  refine JL_q (wants_none rfl) rfl (ex_move rfl) ?_
  refine JL_q (wants_none rfl) rfl (ex_not rfl) ?_
  refine JL_nil ?_
  refine N_then ?_
  refine J_if_true rfl (by rw [show (((mget ([] : List (ByteArray × Int)) r8).isSome)) = false from rfl]; rfl) ?_
  refine J_seq ?_
  refine J_draw [3] (by kernel_rfl) ?_
  refine JP_take (i := 0) [0, 1, 2, 4, 5] [3] rfl (by kernel_rfl) (by kernel_rfl) (by kernel_rfl) rfl rfl (wants_none rfl) rfl (ex_move rfl) ?_
  refine JP_take (i := 1) [0, 1, 2, 4, 5] [3] rfl (by kernel_rfl) (by kernel_rfl) (by kernel_rfl) rfl rfl (wants_none rfl) rfl (ex_nilCheck rfl) ?_
  refine JP_take (i := 2) [0, 1, 2, 4, 5] [3] rfl (by kernel_rfl) (by kernel_rfl) (by kernel_rfl) rfl rfl (wants_none rfl) rfl (ex_fieldAddr fi_103_1 rfl rfl) ?_
  refine JP_take (i := 3) [0, 1, 2, 4, 5] [3] rfl (by kernel_rfl) (by kernel_rfl) (by kernel_rfl) rfl rfl (wants_none rfl) rfl (ex_load_bx 2 ti_101 rfl rfl rfl) ?_
  refine JP_take (i := 4) [0, 1, 2, 4, 5] [3] rfl (by kernel_rfl) (by kernel_rfl) (by kernel_rfl) rfl rfl (wants_none rfl) rfl (ex_move rfl) ?_
  refine JP_take (i := 5) [0, 1, 2, 4, 5] [3] rfl (by kernel_rfl) (by kernel_rfl) (by kernel_rfl) rfl rfl (wants_none rfl) rfl (ex_move rfl) ?_
  refine JP_take (i := 6) [0, 1, 2, 4, 5] [3] rfl (by kernel_rfl) (by kernel_rfl) (by kernel_rfl) rfl rfl (wants_none rfl) rfl (ex_nilCheck rfl) ?_
  refine JP_take (i := 7) [0, 1, 2, 4, 5] [3] rfl (by kernel_rfl) (by kernel_rfl) (by kernel_rfl) rfl rfl (wants_none rfl) rfl (ex_fieldAddr fi_103_0 rfl rfl) ?_
  refine JP_take (i := 8) [0, 1, 2, 4, 5] [3] rfl (by kernel_rfl) (by kernel_rfl) (by kernel_rfl) rfl rfl (wants_none rfl) rfl (ex_load_bx 2 ti_100 rfl rfl rfl) ?_
  refine JP_take (i := 9) [0, 1, 2, 4, 5] [3] rfl (by kernel_rfl) (by kernel_rfl) (by kernel_rfl) rfl rfl (wants_none rfl) rfl (ex_len_nil Try.underlying100 rfl) ?_
  refine JP_go [0, 1, 2, 4, 5] [3] rfl rfl rfl (fun w11 h1_12 hp10 => ?_)
  refine JD_one (i := 10) (by kernel_rfl) ?_
  refine JO_sk rfl (wants_none rfl) (sk_mapUpdate (x := r8) (y := ((0 : Nat) : Int)) 3 key_9 Try.underlying101 rfl rfl rfl rfl rfl rfl rfl rfl) (sub_mp 0 rfl) ?_
  refine JD_done (by kernel_rfl) ?_
  refine N_then ?_
  refine J_draw [2] (by kernel_rfl) ?_
  refine JP_take (i := 0) [0, 1, 3, 4, 5] [2] rfl (by kernel_rfl) (by kernel_rfl) (by kernel_rfl) rfl rfl (wants_none rfl) rfl (ex_move rfl) ?_
  refine JP_take (i := 1) [0, 1, 3, 4, 5] [2] rfl (by kernel_rfl) (by kernel_rfl) (by kernel_rfl) rfl rfl (wants_none rfl) rfl (ex_move rfl) ?_
  refine JP_take (i := 2) [0, 1, 3, 4, 5] [2] rfl (by kernel_rfl) (by kernel_rfl) (by kernel_rfl) rfl rfl (wants_none rfl) rfl (ex_nilCheck rfl) ?_
  refine JP_take (i := 3) [0, 1, 3, 4, 5] [2] rfl (by kernel_rfl) (by kernel_rfl) (by kernel_rfl) rfl rfl (wants_none rfl) rfl (ex_fieldAddr fi_103_0 rfl rfl) ?_
  refine JP_take (i := 5) [0, 1, 3, 4, 5] [2] rfl (by kernel_rfl) (by kernel_rfl) (by kernel_rfl) rfl rfl (wants_none rfl) rfl (ex_load_bx_agg 0 ti_147 rfl rfl rfl rfl) ?_
  refine JP_go [0, 1, 3, 4, 5] [2] rfl rfl rfl (fun w14 h1_15 hp13 => ?_)
  refine JD_two (i := 4) (j := 6) (by kernel_rfl) ?_ ?_
  · refine JO_q rfl (wants_none rfl) rfl (ex_load_bx 2 ti_100 rfl rfl rfl) ?_
    refine JD_one (i := 6) (by kernel_rfl) ?_
    refine JO_ctx (fun w hh => hh.tokf 1 rfl rfl) (tokf_owns (i := 1) rfl) ?_
    refine JO_st rfl (wants_none rfl) rfl (st_buildSlice_od (vs := [.agg #[.int .i64 0, .int .i64 0, x5, .int .i64 (-1)]]) (B := (((x5 : Value).ownBlock.toList ++ []) ++ [])) ([(⟨0, 0, r3, (-1)⟩ : Gfound)] : List Gfound) [0] Try.underlying100 ti_147 zi_147 rfl rfl rfl rfl rfl (fun w hh => (dwv_cons (Gfound.dw (hh.dw 0 rfl)) dwv_nil))) (fun _ hk => nomatch hk) (fun b16 => ?_)
    refine JD_bnd fun z17 hz18 => ?_
    refine JD_one (i := 7) (by kernel_rfl) ?_
    refine JO_ctx (fun w hh => SH.od_nil (α := Gfound) 147 hh) (fun _ hb => hb) ?_
    refine JO_st rfl (wants_none rfl) rfl (st_append_od 0 1 Try.underlying100 ti_147 zi_147 rfl bi_147 rfl rfl rfl rfl rfl rfl hz18) (fun _ hk => absurd hk List.not_mem_nil) (fun v19 => ?_)
    refine JD_take (i := 8) hp13 rfl (by kernel_rfl) (by kernel_rfl) (by kernel_rfl) (wants_none rfl) rfl (ex_nilCheck rfl) ?_
    refine JD_take (i := 9) hp13 rfl (by kernel_rfl) (by kernel_rfl) (by kernel_rfl) (wants_none rfl) rfl (ex_fieldAddr fi_103_0 rfl rfl) ?_
    refine JD_one (i := 10) (by kernel_rfl) ?_
    refine JO_sk rfl (wants_none rfl) (sk_store_bx' 5 ti_100 rfl rfl (fun w hh => (hh.cv_od 0 rfl)) rfl rfl rfl rfl) (sub_bx 0 rfl) ?_
    refine JD_done (by kernel_rfl) ?_
    refine N_inl0 (.inr rfl) hK6 rfl ?_
    refine JL_nil ?_
    refine N_then ?_
    refine J_seq ?_
    refine J_seq ?_
    refine J_region ?_
    refine JL_q (wants_none rfl) rfl (ex_assign rfl) ?_
    refine JL_nil ?_
    refine N_then ?_
    refine J_loop' (S := (List Gfound) × List (ByteArray × Int) × Bool × Int) (G := Value × List Nat) (F_impl_searched_L1 p0 p2) (fun s20 g21 => [(0, v0_), (2, .int .i64 p2), (7, .pointer (some ⟨b2, 0, none⟩)), (8, .int .i64 s20.2.2.2)]) (fun s20 g21 => [.rd v0_ p0, .od 147 g21.1 s20.1 g21.2, mpf Value.string (Value.int .i64) b1 s20.2.1, .bx b2 103 [g21.1, .map (some b1), .bool s20.2.2.1]]) (z17, (mput ([] : List (ByteArray × Int)) r8 ((0 : Nat) : Int)), true, 0) (v19, ([] ++ (((x5 : Value).ownBlock.toList ++ []) ++ []))) ⟨rfl, rfl, rfl, rfl, trivial⟩ [8, 0, 6, 5] rfl rfl (fun s20 g21 => ?_) (fun s20 g21 => ?_)
    · obtain ⟨g21_0, g21_1⟩ := g21
      unfold F_impl_searched_L1
      refine J_seq ?_
      refine J_seq ?_
      refine J_region ?_
      refine JL_q (wants_none rfl) rfl (ex_move rfl) ?_
      refine JL_q (wants_none rfl) rfl (ex_move rfl) ?_
      refine JL_q (wants_none rfl) rfl (ex_nilCheck rfl) ?_
      refine JL_q (wants_none rfl) rfl (ex_fieldAddr fi_103_0 rfl rfl) ?_
      refine JL_q (wants_none rfl) rfl (ex_load_bx 3 ti_100 rfl rfl rfl) ?_
      refine JL_q (wants_none rfl) rfl (ex_od 1 rfl (ex_len_ow 1 Try.underlying100 rfl rfl)) ?_
      refine JL_q (wants_none rfl) rfl (ex_lss rfl rfl) ?_
      refine JL_nil ?_
      refine N_then ?_
      refine J_if rfl (fun h22 => ?_) (fun h22 => ?_)
      · refine J_skip ?_
        refine N_then ?_
        refine J_seq ?_
        refine J_block ?_
        refine J_seq ?_
        refine J_seq ?_
        refine J_region ?_
        refine JL_q (wants_none rfl) rfl (ex_move rfl) ?_
        refine JL_q (wants_none rfl) rfl (ex_move rfl) ?_
        refine JL_q (wants_none rfl) rfl (ex_eql rfl rfl) ?_
        refine JL_nil ?_
        refine N_then ?_
        refine J_if rfl (fun h23 => ?_) (fun h23 => ?_)
        · refine J_seq ?_
          refine J_region ?_
          refine JL_q (wants_none rfl) rfl (ex_move rfl) ?_
          refine JL_q (wants_none rfl) rfl (ex_nilCheck rfl) ?_
          refine JL_q (wants_none rfl) rfl (ex_fieldAddr fi_103_2 rfl rfl) ?_
          refine JL_sk (wants_none rfl) (sk_store_bx' 3 ti_4 rfl rfl (fun w hh => cv_bool) rfl rfl rfl rfl) ?_
          refine JL_nil ?_
          refine N_then ?_
          refine J_exit ?_
          refine N_then_exit ?_
          refine N_block_exit_ne rfl ?_
          refine N_then_exit ?_
          exact N_break' (g21_0, g21_1) ⟨rfl, rfl, rfl, rfl, trivial⟩ [0, 1, 2, 3] rfl rfl
        · refine J_skip ?_
          refine N_then ?_
          refine J_seq ?_
          refine J_region ?_
          refine JL_q (wants_none rfl) rfl (ex_move rfl) ?_
          refine JL_q (wants_none rfl) rfl (ex_move rfl) ?_
          refine JL_q (wants_none rfl) rfl (ex_nilCheck rfl) ?_
          refine JL_q (wants_none rfl) rfl (ex_fieldAddr fi_103_0 rfl rfl) ?_
          refine JL_q (wants_none rfl) rfl (ex_load_bx 3 ti_100 rfl rfl rfl) ?_
          refine JL_q (wants_none rfl) rfl (ex_move rfl) ?_
          refine JL_bnd fun y24 hy25 => ?_
          refine JL_od_open (v := g21_0) 1 rfl hy25 ?_; rintro b26 cap27 rfl
          refine JL_q (wants_none rfl) rfl (ex_od 1 rfl (ex_index_ow 1 Try.underlying100 ti_147 rfl rfl rfl hy25)) ?_
          refine JL_q (wants_none rfl) rfl (ex_fieldAddr fi_147_0 rfl rfl) ?_
          refine JL_q (wants_none rfl) rfl (ex_fieldAddr fi_95_2 rfl rfl) ?_
          refine JL_st (wants_none rfl) rfl (st_od 1 rfl (st_load_ow_part 1 (opens_sl _) (Part.trans (Gfound.at_move _) (Gmove.at_word _)) rfl ti_23 rfl rfl hy25) (fun _ => rfl)) (fun v28 => ?_)
          refine JL_bnd fun r29 hr30 => ?_
          refine JL_call (wants_none rfl) rfl Try.call54 rfl (Ca_self (fun _ => rfl) fun w hh => c_impl_movesOf _ w (fun _ hk => hk.elim) _ _ (hh.rd0 1 rfl) _ _ (hh.rd0 0 rfl) _ hr30) (fun x31 => ?_)
          obtain ⟨x31_0, x31_1⟩ := x31
          refine JL_q (wants_none rfl) rfl (ex_move rfl) ?_
          refine JL_q (wants_none rfl) rfl (ex_extract rfl rfl) ?_
          refine JL_q (wants_none rfl) rfl (ex_extract rfl rfl) ?_
          refine JL_q (wants_none rfl) rfl (ex_assign rfl) ?_
          refine JL_q (wants_none rfl) rfl (ex_assign rfl) ?_
          refine JL_nil ?_
          refine N_then ?_
          refine J_seq ?_
          refine J_cut' (S' := Bool) (G' := Unit) (fun s32 _ => [(0, v0_), (2, .int .i64 p2), (7, .pointer (some ⟨b2, 0, none⟩)), (8, .int .i64 s20.2.2.2), (9, x31_0)]) (fun s32 _ => [.rd v0_ p0, .od 147 (.slice (some ⟨b26, 0, none⟩) s20.1.length cap27) s20.1 g21_1, mpf Value.string (Value.int .i64) b1 s20.2.1, .bx b2 103 [(.slice (some ⟨b26, 0, none⟩) s20.1.length cap27), .map (some b1), .bool s32], .od 95 x31_0 r29.1 x31_1]) ?_ (fun s32 g33 => ?_)
          · refine J_region ?_
            refine JL_q (wants_none rfl) rfl (ex_move rfl) ?_
            refine JL_q (wants_none rfl) rfl (ex_move rfl) ?_
            refine JL_q (wants_none rfl) rfl (ex_nilCheck rfl) ?_
            refine JL_q (wants_none rfl) rfl (ex_fieldAddr fi_103_2 rfl rfl) ?_
            refine JL_q (wants_none rfl) rfl (ex_load_bx 5 ti_4 rfl rfl rfl) ?_
            refine JL_q (wants_none rfl) rfl (ex_move rfl) ?_
            refine JL_cond (fun h34 => ?_) (fun h34 => ?_)
            · refine JL_q (wants_some rfl rfl rfl h34) rfl (ex_move rfl) ?_
              refine JL_q (wants_some rfl rfl rfl h34) rfl (ex_not rfl) ?_
              refine JL_q (wants_none rfl) rfl (ex_pick_true rfl h34 rfl) ?_
              refine JL_q (wants_none rfl) rfl (ex_nilCheck rfl) ?_
              refine JL_q (wants_none rfl) rfl (ex_fieldAddr fi_103_2 rfl rfl) ?_
              refine JL_sk (wants_none rfl) (sk_store_bx' 5 ti_4 rfl rfl (fun w hh => cv_bool) rfl rfl rfl rfl) ?_
              refine JL_nil ?_
              exact N_meet' () ⟨rfl, rfl, rfl, rfl, rfl, trivial⟩ [2, 3, 4, 5, 0] rfl rfl
            · refine JL_passed rfl rfl rfl h34 ?_
              refine JL_passed rfl rfl rfl h34 ?_
              refine JL_q (wants_none rfl) rfl (ex_pick_false rfl h34 rfl) ?_
              refine JL_q (wants_none rfl) rfl (ex_nilCheck rfl) ?_
              refine JL_q (wants_none rfl) rfl (ex_fieldAddr fi_103_2 rfl rfl) ?_
              refine JL_sk (wants_none rfl) (sk_store_bx' 5 ti_4 rfl rfl (fun w hh => cv_bool) rfl rfl rfl rfl) ?_
              refine JL_nil ?_
              exact N_meet' () ⟨rfl, rfl, rfl, rfl, rfl, trivial⟩ [2, 3, 4, 5, 0] rfl rfl
          · refine N_then ?_
            refine J_seq ?_
            refine J_region ?_
            refine JL_q (wants_none rfl) rfl (ex_move rfl) ?_
            refine JL_q (wants_none rfl) rfl (ex_od 4 rfl (ex_len_ow 4 Try.underlying90 rfl rfl)) ?_
            refine JL_q (wants_none rfl) rfl (ex_move rfl) ?_
            refine JL_nil ?_
            refine N_then ?_
            refine J_tail 4 rfl 0 (fun ts35 hts36 hln37 => ?_)
            refine J_loop' (S := (List Gfound) × List (ByteArray × Int) × Int) (G := Value × List Nat) (F_impl_searched_L2 s20 r29) (fun s38 g39 => [(0, v0_), (2, .int .i64 p2), (7, .pointer (some ⟨b2, 0, none⟩)), (8, .int .i64 s20.2.2.2), (62, x31_0), (63, .int .i64 (r29.1.length : Int)), (64, .int .i64 s38.2.2)]) (fun s38 g39 => [.rd v0_ p0, .od 147 g39.1 s38.1 g39.2, mpf Value.string (Value.int .i64) b1 s38.2.1, .bx b2 103 [g39.1, .map (some b1), .bool s32], .rd x31_0 r29.1, .rd x31_0 ts35, hld (tlB ts35 s38.2.2)]) (s20.1, s20.2.1, 0) ((.slice (some ⟨b26, 0, none⟩) s20.1.length cap27), g21_1) ⟨rfl, rfl, rfl, rfl, rfl, rfl, rfl, trivial⟩ [2, 3, 4, 5, 6, 1, 0] rfl rfl (fun s38 g39 => ?_) (fun s38 g39 => ?_)
            · obtain ⟨g39_0, g39_1⟩ := g39
              unfold F_impl_searched_L2
              refine J_seq ?_
              refine J_region ?_
              refine JL_q (wants_none rfl) rfl (ex_lss rfl rfl) ?_
              refine JL_nil ?_
              refine N_then ?_
              refine J_seq ?_
              refine J_if rfl (fun h40 => ?_) (fun h40 => ?_)
              · refine J_skip ?_
                refine N_then ?_
                refine J_seq ?_
                refine J_block ?_
                refine J_seq ?_
                refine J_region ?_
                refine JL_bnd fun y41 hy42 => ?_
                obtain ⟨t44, ht45, hx46⟩ := tl_idx hts36 hy42
                refine JL_st (wants_none rfl) rfl (st_index 5 Try.underlying90 ti_95 rfl rfl rfl ht45) (fun q43 => ?_)
                refine JL_st (wants_none rfl) rfl (st_load_pt_o 0 (Gmove.opT t44 hx46) ti_95 rfl rfl) (fun v47 => ?_)
                refine JL_ctx (fun w hh => hh.tl_take 0 8 rfl rfl (tl_next hln37 ht45)) ?_
                refine JL_st (wants_none rfl) rfl (st_alloc zi_95 rfl) (fun b48 => ?_)
                refine JL_sk (wants_none rfl) (sk_store_bx' 0 ti_95 rfl rfl (fun w hh => (cv_aggs ⟨cv_int, cv_int, (hh.cv 1 rfl), trivial⟩)) rfl rfl rfl rfl) ?_
                refine JL_nil ?_
                refine N_then ?_
                refine J_seq ?_
                refine J_region ?_
                refine JL_q (wants_none rfl) rfl (ex_move rfl) ?_
                refine JL_q (wants_none rfl) rfl (ex_load_bx_agg 0 ti_95 rfl rfl rfl rfl) ?_
                refine JL_q (wants_none rfl) rfl (ex_move rfl) ?_
                refine JL_q (wants_none rfl) rfl (ex_buildN [(0, .agg #[.int .i64 y41.rule, .int .i64 y41.at_, v47], [.int .i64 y41.rule, .int .i64 y41.at_, v47]), (1, .int .i64 s20.2.2.2, [.int .i64 s20.2.2.2])] si_147 rfl (.cons fi_147_0 rfl rfl rfl (.cons fi_147_1 rfl rfl rfl .nil)) (fun w hh => ⟨(cv_aggs ⟨cv_int, cv_int, (hh.cv 1 rfl), trivial⟩), cv_int, trivial⟩)) ?_
                refine JL_inline (wants_none rfl) rfl Try.call103 rfl Try.func103 rfl Try.ntmps103 rfl rfl (fun K_ hK49 => ?_)
                refine J_seq ?_
                refine J_region ?_
                refine JL_st (wants_none rfl) rfl (st_box' rfl (fun w hh => (cv_aggs ⟨cv_int, cv_int, (hh.cv 1 rfl), cv_int, trivial⟩))) (fun b50 => ?_)
                refine JL_nil ?_
                refine N_then ?_
                refine J_seq ?_
                refine J_region ?_
                refine JL_q (wants_none rfl) rfl (ex_fieldAddr fi_147_0 rfl rfl) ?_
                refine JL_q (wants_none rfl) rfl (ex_fieldAddr fi_95_2 rfl rfl) ?_
                refine JL_q (wants_none rfl) rfl (ex_load_bx 0 ti_23 rfl rfl rfl) ?_
                refine JL_bnd fun r51 hr52 => ?_
                refine JL_call (wants_none rfl) rfl Try.call55 rfl (Ca_of0 fun w hh => c_impl_keyOf _ w (fun _ hk => hk.elim) _ _ (hh.rd0 2 rfl) _ hr52) (fun _ => ?_)
                refine JL_q (wants_none rfl) rfl (ex_assign rfl) ?_
                refine JL_nil ?_
                refine N_then ?_
                refine J_seq ?_
                refine J_region ?_
                refine JL_q (wants_none rfl) rfl (ex_move rfl) ?_
                refine JL_q (wants_none rfl) rfl (ex_nilCheck rfl) ?_
                refine JL_q (wants_none rfl) rfl (ex_fieldAddr fi_103_1 rfl rfl) ?_
                refine JL_q (wants_none rfl) rfl (ex_load_bx 9 ti_101 rfl rfl rfl) ?_
                refine JL_q (wants_none rfl) rfl (ex_move rfl) ?_
                refine JL_q (wants_none rfl) rfl (ex_lookup_ok (x := r51) (z := 0) 8 key_9 Try.underlying101 zi_3 rfl rfl rfl rfl rfl) ?_
                refine JL_q (wants_none rfl) rfl (ex_move rfl) ?_
                refine JL_q (wants_none rfl) rfl (ex_extract rfl rfl) ?_
                refine JL_q (wants_none rfl) rfl (ex_extract rfl rfl) ?_
                refine JL_q (wants_none rfl) rfl (ex_assign rfl) ?_
                refine JL_q (wants_none rfl) rfl (ex_assign rfl) ?_
                refine JL_nil ?_
                refine N_then ?_
                refine J_seq ?_
                refine J_region ?_
                refine JL_q (wants_none rfl) rfl (ex_move rfl) ?_
                refine JL_q (wants_none rfl) rfl (ex_not rfl) ?_
                refine JL_nil ?_
                refine N_then ?_
                refine J_if rfl (fun h53 => ?_) (fun h53 => ?_)
                · refine J_seq ?_
                  refine J_draw [8] (by kernel_rfl) ?_
                  refine JP_take (i := 0) [0, 1, 2, 3, 4, 5, 6, 7, 9, 10, 11, 12] [8] rfl (by kernel_rfl) (by kernel_rfl) (by kernel_rfl) rfl rfl (wants_none rfl) rfl (ex_move rfl) ?_
                  refine JP_take (i := 1) [0, 1, 2, 3, 4, 5, 6, 7, 9, 10, 11, 12] [8] rfl (by kernel_rfl) (by kernel_rfl) (by kernel_rfl) rfl rfl (wants_none rfl) rfl (ex_nilCheck rfl) ?_
                  refine JP_take (i := 2) [0, 1, 2, 3, 4, 5, 6, 7, 9, 10, 11, 12] [8] rfl (by kernel_rfl) (by kernel_rfl) (by kernel_rfl) rfl rfl (wants_none rfl) rfl (ex_fieldAddr fi_103_1 rfl rfl) ?_
                  refine JP_take (i := 3) [0, 1, 2, 3, 4, 5, 6, 7, 9, 10, 11, 12] [8] rfl (by kernel_rfl) (by kernel_rfl) (by kernel_rfl) rfl rfl (wants_none rfl) rfl (ex_load_bx 8 ti_101 rfl rfl rfl) ?_
                  refine JP_take (i := 4) [0, 1, 2, 3, 4, 5, 6, 7, 9, 10, 11, 12] [8] rfl (by kernel_rfl) (by kernel_rfl) (by kernel_rfl) rfl rfl (wants_none rfl) rfl (ex_move rfl) ?_
                  refine JP_take (i := 5) [0, 1, 2, 3, 4, 5, 6, 7, 9, 10, 11, 12] [8] rfl (by kernel_rfl) (by kernel_rfl) (by kernel_rfl) rfl rfl (wants_none rfl) rfl (ex_move rfl) ?_
                  refine JP_take (i := 6) [0, 1, 2, 3, 4, 5, 6, 7, 9, 10, 11, 12] [8] rfl (by kernel_rfl) (by kernel_rfl) (by kernel_rfl) rfl rfl (wants_none rfl) rfl (ex_nilCheck rfl) ?_
                  refine JP_take (i := 7) [0, 1, 2, 3, 4, 5, 6, 7, 9, 10, 11, 12] [8] rfl (by kernel_rfl) (by kernel_rfl) (by kernel_rfl) rfl rfl (wants_none rfl) rfl (ex_fieldAddr fi_103_0 rfl rfl) ?_
                  refine JP_take (i := 8) [0, 1, 2, 3, 4, 5, 6, 7, 9, 10, 11, 12] [8] rfl (by kernel_rfl) (by kernel_rfl) (by kernel_rfl) rfl rfl (wants_none rfl) rfl (ex_load_bx 8 ti_100 rfl rfl rfl) ?_
                  refine JP_take (i := 9) [0, 1, 2, 3, 4, 5, 6, 7, 9, 10, 11, 12] [8] rfl (by kernel_rfl) (by kernel_rfl) (by kernel_rfl) rfl rfl (wants_none rfl) rfl (ex_od 7 rfl (ex_len_ow 7 Try.underlying100 rfl rfl)) ?_
                  refine JP_go [0, 1, 2, 3, 4, 5, 6, 7, 9, 10, 11, 12] [8] rfl rfl rfl (fun w55 h1_56 hp54 => ?_)
                  refine JD_one (i := 10) (by kernel_rfl) ?_
                  refine JO_sk rfl (wants_none rfl) (sk_mapUpdate (x := r51) (y := (s38.1.length : Int)) 8 key_9 Try.underlying101 rfl rfl rfl rfl rfl rfl rfl rfl) (sub_mp 0 rfl) ?_
                  refine JD_done (by kernel_rfl) ?_
                  refine N_then ?_
                  refine J_draw [7, 9] (by kernel_rfl) ?_
                  refine JP_take (i := 0) [0, 1, 2, 3, 4, 5, 6, 8, 10, 11, 12] [7, 9] rfl (by kernel_rfl) (by kernel_rfl) (by kernel_rfl) rfl rfl (wants_none rfl) rfl (ex_move rfl) ?_
                  refine JP_take (i := 1) [0, 1, 2, 3, 4, 5, 6, 8, 10, 11, 12] [7, 9] rfl (by kernel_rfl) (by kernel_rfl) (by kernel_rfl) rfl rfl (wants_none rfl) rfl (ex_move rfl) ?_
                  refine JP_take (i := 2) [0, 1, 2, 3, 4, 5, 6, 8, 10, 11, 12] [7, 9] rfl (by kernel_rfl) (by kernel_rfl) (by kernel_rfl) rfl rfl (wants_none rfl) rfl (ex_nilCheck rfl) ?_
                  refine JP_take (i := 3) [0, 1, 2, 3, 4, 5, 6, 8, 10, 11, 12] [7, 9] rfl (by kernel_rfl) (by kernel_rfl) (by kernel_rfl) rfl rfl (wants_none rfl) rfl (ex_fieldAddr fi_103_0 rfl rfl) ?_
                  refine JP_take (i := 5) [0, 1, 2, 3, 4, 5, 6, 8, 10, 11, 12] [7, 9] rfl (by kernel_rfl) (by kernel_rfl) (by kernel_rfl) rfl rfl (wants_none rfl) rfl (ex_load_bx_agg 0 ti_147 rfl rfl rfl rfl) ?_
                  refine JP_go [0, 1, 2, 3, 4, 5, 6, 8, 10, 11, 12] [7, 9] rfl rfl rfl (fun w58 h1_59 hp57 => ?_)
                  refine JD_two (i := 4) (j := 6) (by kernel_rfl) ?_ ?_
                  · refine JO_q rfl (wants_none rfl) rfl (ex_load_bx 9 ti_100 rfl rfl rfl) ?_
                    refine JD_one (i := 6) (by kernel_rfl) ?_
                    refine JO_st rfl (wants_none rfl) rfl (st_buildSlice_od (vs := [.agg #[.int .i64 y41.rule, .int .i64 y41.at_, v47, .int .i64 s20.2.2.2]]) (B := (t44.B ++ [])) ([(⟨y41.rule, y41.at_, y41.word, s20.2.2.2⟩ : Gfound)] : List Gfound) [3] Try.underlying100 ti_147 zi_147 rfl rfl rfl rfl rfl (fun w hh => (dwv_cons (Gfound.dw (hh.dw 3 rfl)) dwv_nil))) (fun _ hk => nomatch hk) (fun b60 => ?_)
                    refine JD_bnd fun z61 hz62 => ?_
                    refine JD_one (i := 7) (by kernel_rfl) ?_
                    refine JO_st rfl (wants_none rfl) rfl (st_append_od 8 0 Try.underlying100 ti_147 zi_147 rfl bi_147 rfl rfl rfl rfl rfl rfl hz62) (sub_od 0 rfl) (fun v63 => ?_)
                    refine JD_take (i := 8) hp57 rfl (by kernel_rfl) (by kernel_rfl) (by kernel_rfl) (wants_none rfl) rfl (ex_nilCheck rfl) ?_
                    refine JD_take (i := 9) hp57 rfl (by kernel_rfl) (by kernel_rfl) (by kernel_rfl) (wants_none rfl) rfl (ex_fieldAddr fi_103_0 rfl rfl) ?_
                    refine JD_one (i := 10) (by kernel_rfl) ?_
                    refine JO_sk rfl (wants_none rfl) (sk_store_bx' 10 ti_100 rfl rfl (fun w hh => (hh.cv_od 8 rfl)) rfl rfl rfl rfl) (sub_bx 1 rfl) ?_
                    refine JD_done (by kernel_rfl) ?_
                    refine N_inl0 (.inr rfl) hK49 rfl ?_
                    refine JL_nil ?_
                    refine N_then ?_
                    refine J_seq ?_
                    refine J_region ?_
                    refine JL_q (wants_none rfl) rfl (ex_move rfl) ?_
                    refine JL_q (wants_none rfl) rfl (ex_nilCheck rfl) ?_
                    refine JL_q (wants_none rfl) rfl (ex_fieldAddr fi_103_0 rfl rfl) ?_
                    refine JL_q (wants_none rfl) rfl (ex_load_bx 10 ti_100 rfl rfl rfl) ?_
                    refine JL_q (wants_none rfl) rfl (ex_od 8 rfl (ex_len_ow 8 Try.underlying100 rfl rfl)) ?_
                    refine JL_q (wants_none rfl) rfl (ex_eql rfl rfl) ?_
                    refine JL_nil ?_
                    refine N_then ?_
                    refine J_if rfl (fun h64 => ?_) (fun h64 => ?_)
                    · refine J_seq ?_
                      refine J_region ?_
                      refine JL_q (wants_none rfl) rfl (ex_move rfl) ?_
                      refine JL_q (wants_none rfl) rfl (ex_nilCheck rfl) ?_
                      refine JL_q (wants_none rfl) rfl (ex_fieldAddr fi_103_2 rfl rfl) ?_
                      refine JL_sk (wants_none rfl) (sk_store_bx' 10 ti_4 rfl rfl (fun w hh => cv_bool) rfl rfl rfl rfl) ?_
                      refine JL_nil ?_
                      refine N_then ?_
                      refine J_seq ?_
                      refine J_region ?_
                      refine JL_q (wants_none rfl) rfl (ex_move rfl) ?_
                      refine JL_q (wants_none rfl) rfl (ex_assign rfl) ?_
                      refine JL_nil ?_
                      refine N_then ?_
                      refine J_ret ?_
                      refine N_block_ret ?_
                      refine N_then_ret ?_
                      refine N_round_ret ?_
                      refine N_block_ret ?_
                      refine N_then_ret ?_
                      refine N_round_ret ?_
                      refine N_then_ret ?_
                      exact N_ret1 rfl (rv_tmp rfl) (fun w hh => ⟨(v63, (g39_1 ++ (t44.B ++ [])), b2, b1), rfl, hh.sel [8, 10, 9] rfl⟩)
                    · refine J_skip ?_
                      refine N_block ?_
                      refine N_then ?_
                      refine J_region ?_
                      refine JL_q (wants_none rfl) rfl (ex_add rfl rfl) ?_
                      refine JL_q (wants_none rfl) rfl (ex_move rfl) ?_
                      refine JL_nil ?_
                      exact N_next' (v63, (g39_1 ++ (t44.B ++ []))) ⟨rfl, rfl, rfl, rfl, rfl, rfl, rfl, trivial⟩ [7, 8, 9, 10, 11, 12, 13] rfl rfl
                  · refine JO_st rfl (wants_none rfl) rfl (st_buildSlice_od (vs := [.agg #[.int .i64 y41.rule, .int .i64 y41.at_, v47, .int .i64 s20.2.2.2]]) (B := (t44.B ++ [])) ([(⟨y41.rule, y41.at_, y41.word, s20.2.2.2⟩ : Gfound)] : List Gfound) [3] Try.underlying100 ti_147 zi_147 rfl rfl rfl rfl rfl (fun w hh => (dwv_cons (Gfound.dw (hh.dw 3 rfl)) dwv_nil))) (fun _ hk => nomatch hk) (fun b65 => ?_)
                    refine JD_one (i := 4) (by kernel_rfl) ?_
                    refine JO_q rfl (wants_none rfl) rfl (ex_load_bx 10 ti_100 rfl rfl rfl) ?_
                    refine JD_bnd fun z66 hz67 => ?_
                    refine JD_one (i := 7) (by kernel_rfl) ?_
                    refine JO_st rfl (wants_none rfl) rfl (st_append_od 8 0 Try.underlying100 ti_147 zi_147 rfl bi_147 rfl rfl rfl rfl rfl rfl hz67) (sub_od 0 rfl) (fun v68 => ?_)
                    refine JD_take (i := 8) hp57 rfl (by kernel_rfl) (by kernel_rfl) (by kernel_rfl) (wants_none rfl) rfl (ex_nilCheck rfl) ?_
                    refine JD_take (i := 9) hp57 rfl (by kernel_rfl) (by kernel_rfl) (by kernel_rfl) (wants_none rfl) rfl (ex_fieldAddr fi_103_0 rfl rfl) ?_
                    refine JD_one (i := 10) (by kernel_rfl) ?_
                    refine JO_sk rfl (wants_none rfl) (sk_store_bx' 10 ti_100 rfl rfl (fun w hh => (hh.cv_od 8 rfl)) rfl rfl rfl rfl) (sub_bx 1 rfl) ?_
                    refine JD_done (by kernel_rfl) ?_
                    refine N_inl0 (.inr rfl) hK49 rfl ?_
                    refine JL_nil ?_
                    refine N_then ?_
                    refine J_seq ?_
                    refine J_region ?_
                    refine JL_q (wants_none rfl) rfl (ex_move rfl) ?_
                    refine JL_q (wants_none rfl) rfl (ex_nilCheck rfl) ?_
                    refine JL_q (wants_none rfl) rfl (ex_fieldAddr fi_103_0 rfl rfl) ?_
                    refine JL_q (wants_none rfl) rfl (ex_load_bx 10 ti_100 rfl rfl rfl) ?_
                    refine JL_q (wants_none rfl) rfl (ex_od 8 rfl (ex_len_ow 8 Try.underlying100 rfl rfl)) ?_
                    refine JL_q (wants_none rfl) rfl (ex_eql rfl rfl) ?_
                    refine JL_nil ?_
                    refine N_then ?_
                    refine J_if rfl (fun h69 => ?_) (fun h69 => ?_)
                    · refine J_seq ?_
                      refine J_region ?_
                      refine JL_q (wants_none rfl) rfl (ex_move rfl) ?_
                      refine JL_q (wants_none rfl) rfl (ex_nilCheck rfl) ?_
                      refine JL_q (wants_none rfl) rfl (ex_fieldAddr fi_103_2 rfl rfl) ?_
                      refine JL_sk (wants_none rfl) (sk_store_bx' 10 ti_4 rfl rfl (fun w hh => cv_bool) rfl rfl rfl rfl) ?_
                      refine JL_nil ?_
                      refine N_then ?_
                      refine J_seq ?_
                      refine J_region ?_
                      refine JL_q (wants_none rfl) rfl (ex_move rfl) ?_
                      refine JL_q (wants_none rfl) rfl (ex_assign rfl) ?_
                      refine JL_nil ?_
                      refine N_then ?_
                      refine J_ret ?_
                      refine N_block_ret ?_
                      refine N_then_ret ?_
                      refine N_round_ret ?_
                      refine N_block_ret ?_
                      refine N_then_ret ?_
                      refine N_round_ret ?_
                      refine N_then_ret ?_
                      exact N_ret1 rfl (rv_tmp rfl) (fun w hh => ⟨(v68, (g39_1 ++ (t44.B ++ [])), b2, b1), rfl, hh.sel [8, 10, 9] rfl⟩)
                    · refine J_skip ?_
                      refine N_block ?_
                      refine N_then ?_
                      refine J_region ?_
                      refine JL_q (wants_none rfl) rfl (ex_add rfl rfl) ?_
                      refine JL_q (wants_none rfl) rfl (ex_move rfl) ?_
                      refine JL_nil ?_
                      exact N_next' (v68, (g39_1 ++ (t44.B ++ []))) ⟨rfl, rfl, rfl, rfl, rfl, rfl, rfl, trivial⟩ [7, 8, 9, 10, 11, 12, 13] rfl rfl
                · refine J_skip ?_
                  refine N_inl0 (.inr rfl) hK49 rfl ?_
                  refine JL_nil ?_
                  refine N_then ?_
                  refine J_seq ?_
                  refine J_region ?_
                  refine JL_q (wants_none rfl) rfl (ex_move rfl) ?_
                  refine JL_q (wants_none rfl) rfl (ex_nilCheck rfl) ?_
                  refine JL_q (wants_none rfl) rfl (ex_fieldAddr fi_103_0 rfl rfl) ?_
                  refine JL_q (wants_none rfl) rfl (ex_load_bx 9 ti_100 rfl rfl rfl) ?_
                  refine JL_q (wants_none rfl) rfl (ex_od 7 rfl (ex_len_ow 7 Try.underlying100 rfl rfl)) ?_
                  refine JL_q (wants_none rfl) rfl (ex_eql rfl rfl) ?_
                  refine JL_nil ?_
                  refine N_then ?_
                  refine J_if rfl (fun h70 => ?_) (fun h70 => ?_)
                  · refine J_seq ?_
                    refine J_region ?_
                    refine JL_q (wants_none rfl) rfl (ex_move rfl) ?_
                    refine JL_q (wants_none rfl) rfl (ex_nilCheck rfl) ?_
                    refine JL_q (wants_none rfl) rfl (ex_fieldAddr fi_103_2 rfl rfl) ?_
                    refine JL_sk (wants_none rfl) (sk_store_bx' 9 ti_4 rfl rfl (fun w hh => cv_bool) rfl rfl rfl rfl) ?_
                    refine JL_nil ?_
                    refine N_then ?_
                    refine J_seq ?_
                    refine J_region ?_
                    refine JL_q (wants_none rfl) rfl (ex_move rfl) ?_
                    refine JL_q (wants_none rfl) rfl (ex_assign rfl) ?_
                    refine JL_nil ?_
                    refine N_then ?_
                    refine J_ret ?_
                    refine N_block_ret ?_
                    refine N_then_ret ?_
                    refine N_round_ret ?_
                    refine N_block_ret ?_
                    refine N_then_ret ?_
                    refine N_round_ret ?_
                    refine N_then_ret ?_
                    exact N_ret1 rfl (rv_tmp rfl) (fun w hh => ⟨(g39_0, g39_1, b2, b1), rfl, hh.sel [7, 9, 8] rfl⟩)
                  · refine J_skip ?_
                    refine N_block ?_
                    refine N_then ?_
                    refine J_region ?_
                    refine JL_q (wants_none rfl) rfl (ex_add rfl rfl) ?_
                    refine JL_q (wants_none rfl) rfl (ex_move rfl) ?_
                    refine JL_nil ?_
                    exact N_next' (g39_0, g39_1) ⟨rfl, rfl, rfl, rfl, rfl, rfl, rfl, trivial⟩ [6, 7, 8, 9, 10, 11, 12] rfl rfl
              · refine J_exit ?_
                refine N_then_exit ?_
                exact N_break' (g39_0, g39_1) ⟨rfl, rfl, rfl, rfl, rfl, rfl, rfl, trivial⟩ [0, 1, 2, 3, 4, 5, 6] rfl rfl
            · obtain ⟨g39_0, g39_1⟩ := g39
              refine N_block ?_
              refine N_then ?_
              refine J_region ?_
              refine JL_q (wants_none rfl) rfl (ex_move rfl) ?_
              refine JL_q (wants_none rfl) rfl (ex_add rfl rfl) ?_
              refine JL_q (wants_none rfl) rfl (ex_assign rfl) ?_
              refine JL_nil ?_
              exact N_next' (g39_0, g39_1) ⟨rfl, rfl, rfl, rfl, trivial⟩ [0, 1, 2, 3] rfl rfl
      · refine J_exit ?_
        refine N_then_exit ?_
        exact N_break' (g21_0, g21_1) ⟨rfl, rfl, rfl, rfl, trivial⟩ [0, 1, 2, 3] rfl rfl
    · obtain ⟨g21_0, g21_1⟩ := g21
      refine N_then ?_
      refine J_seq ?_
      refine J_region ?_
      refine JL_q (wants_none rfl) rfl (ex_move rfl) ?_
      refine JL_q (wants_none rfl) rfl (ex_assign rfl) ?_
      refine JL_nil ?_
      refine N_then ?_
      refine J_ret ?_
      exact N_ret1 rfl (rv_tmp rfl) (fun w hh => ⟨(g21_0, g21_1, b2, b1), rfl, hh.sel [1, 3, 2] rfl⟩)
  · refine JO_ctx (fun w hh => hh.tokf 1 rfl rfl) (tokf_owns (i := 1) rfl) ?_
    refine JO_st rfl (wants_none rfl) rfl (st_buildSlice_od (vs := [.agg #[.int .i64 0, .int .i64 0, x5, .int .i64 (-1)]]) (B := (((x5 : Value).ownBlock.toList ++ []) ++ [])) ([(⟨0, 0, r3, (-1)⟩ : Gfound)] : List Gfound) [0] Try.underlying100 ti_147 zi_147 rfl rfl rfl rfl rfl (fun w hh => (dwv_cons (Gfound.dw (hh.dw 0 rfl)) dwv_nil))) (fun _ hk => nomatch hk) (fun b71 => ?_)
    refine JD_one (i := 4) (by kernel_rfl) ?_
    refine JO_q rfl (wants_none rfl) rfl (ex_load_bx 4 ti_100 rfl rfl rfl) ?_
    refine JD_bnd fun z72 hz73 => ?_
    refine JD_one (i := 7) (by kernel_rfl) ?_
    refine JO_ctx (fun w hh => SH.od_nil (α := Gfound) 147 hh) (fun _ hb => hb) ?_
    refine JO_st rfl (wants_none rfl) rfl (st_append_od 0 1 Try.underlying100 ti_147 zi_147 rfl bi_147 rfl rfl rfl rfl rfl rfl hz73) (fun _ hk => absurd hk List.not_mem_nil) (fun v74 => ?_)
    refine JD_take (i := 8) hp13 rfl (by kernel_rfl) (by kernel_rfl) (by kernel_rfl) (wants_none rfl) rfl (ex_nilCheck rfl) ?_
    refine JD_take (i := 9) hp13 rfl (by kernel_rfl) (by kernel_rfl) (by kernel_rfl) (wants_none rfl) rfl (ex_fieldAddr fi_103_0 rfl rfl) ?_
    refine JD_one (i := 10) (by kernel_rfl) ?_
    refine JO_sk rfl (wants_none rfl) (sk_store_bx' 5 ti_100 rfl rfl (fun w hh => (hh.cv_od 0 rfl)) rfl rfl rfl rfl) (sub_bx 0 rfl) ?_
    refine JD_done (by kernel_rfl) ?_
    refine N_inl0 (.inr rfl) hK6 rfl ?_
    refine JL_nil ?_
    refine N_then ?_
    refine J_seq ?_
    refine J_seq ?_
    refine J_region ?_
    refine JL_q (wants_none rfl) rfl (ex_assign rfl) ?_
    refine JL_nil ?_
    refine N_then ?_
    refine J_loop' (S := (List Gfound) × List (ByteArray × Int) × Bool × Int) (G := Value × List Nat) (F_impl_searched_L1 p0 p2) (fun s75 g76 => [(0, v0_), (2, .int .i64 p2), (7, .pointer (some ⟨b2, 0, none⟩)), (8, .int .i64 s75.2.2.2)]) (fun s75 g76 => [.rd v0_ p0, .od 147 g76.1 s75.1 g76.2, mpf Value.string (Value.int .i64) b1 s75.2.1, .bx b2 103 [g76.1, .map (some b1), .bool s75.2.2.1]]) (z72, (mput ([] : List (ByteArray × Int)) r8 ((0 : Nat) : Int)), true, 0) (v74, ([] ++ (((x5 : Value).ownBlock.toList ++ []) ++ []))) ⟨rfl, rfl, rfl, rfl, trivial⟩ [8, 0, 6, 5] rfl rfl (fun s75 g76 => ?_) (fun s75 g76 => ?_)
    · obtain ⟨g76_0, g76_1⟩ := g76
      unfold F_impl_searched_L1
      refine J_seq ?_
      refine J_seq ?_
      refine J_region ?_
      refine JL_q (wants_none rfl) rfl (ex_move rfl) ?_
      refine JL_q (wants_none rfl) rfl (ex_move rfl) ?_
      refine JL_q (wants_none rfl) rfl (ex_nilCheck rfl) ?_
      refine JL_q (wants_none rfl) rfl (ex_fieldAddr fi_103_0 rfl rfl) ?_
      refine JL_q (wants_none rfl) rfl (ex_load_bx 3 ti_100 rfl rfl rfl) ?_
      refine JL_q (wants_none rfl) rfl (ex_od 1 rfl (ex_len_ow 1 Try.underlying100 rfl rfl)) ?_
      refine JL_q (wants_none rfl) rfl (ex_lss rfl rfl) ?_
      refine JL_nil ?_
      refine N_then ?_
      refine J_if rfl (fun h77 => ?_) (fun h77 => ?_)
      · refine J_skip ?_
        refine N_then ?_
        refine J_seq ?_
        refine J_block ?_
        refine J_seq ?_
        refine J_seq ?_
        refine J_region ?_
        refine JL_q (wants_none rfl) rfl (ex_move rfl) ?_
        refine JL_q (wants_none rfl) rfl (ex_move rfl) ?_
        refine JL_q (wants_none rfl) rfl (ex_eql rfl rfl) ?_
        refine JL_nil ?_
        refine N_then ?_
        refine J_if rfl (fun h78 => ?_) (fun h78 => ?_)
        · refine J_seq ?_
          refine J_region ?_
          refine JL_q (wants_none rfl) rfl (ex_move rfl) ?_
          refine JL_q (wants_none rfl) rfl (ex_nilCheck rfl) ?_
          refine JL_q (wants_none rfl) rfl (ex_fieldAddr fi_103_2 rfl rfl) ?_
          refine JL_sk (wants_none rfl) (sk_store_bx' 3 ti_4 rfl rfl (fun w hh => cv_bool) rfl rfl rfl rfl) ?_
          refine JL_nil ?_
          refine N_then ?_
          refine J_exit ?_
          refine N_then_exit ?_
          refine N_block_exit_ne rfl ?_
          refine N_then_exit ?_
          exact N_break' (g76_0, g76_1) ⟨rfl, rfl, rfl, rfl, trivial⟩ [0, 1, 2, 3] rfl rfl
        · refine J_skip ?_
          refine N_then ?_
          refine J_seq ?_
          refine J_region ?_
          refine JL_q (wants_none rfl) rfl (ex_move rfl) ?_
          refine JL_q (wants_none rfl) rfl (ex_move rfl) ?_
          refine JL_q (wants_none rfl) rfl (ex_nilCheck rfl) ?_
          refine JL_q (wants_none rfl) rfl (ex_fieldAddr fi_103_0 rfl rfl) ?_
          refine JL_q (wants_none rfl) rfl (ex_load_bx 3 ti_100 rfl rfl rfl) ?_
          refine JL_q (wants_none rfl) rfl (ex_move rfl) ?_
          refine JL_bnd fun y79 hy80 => ?_
          refine JL_od_open (v := g76_0) 1 rfl hy80 ?_; rintro b81 cap82 rfl
          refine JL_q (wants_none rfl) rfl (ex_od 1 rfl (ex_index_ow 1 Try.underlying100 ti_147 rfl rfl rfl hy80)) ?_
          refine JL_q (wants_none rfl) rfl (ex_fieldAddr fi_147_0 rfl rfl) ?_
          refine JL_q (wants_none rfl) rfl (ex_fieldAddr fi_95_2 rfl rfl) ?_
          refine JL_st (wants_none rfl) rfl (st_od 1 rfl (st_load_ow_part 1 (opens_sl _) (Part.trans (Gfound.at_move _) (Gmove.at_word _)) rfl ti_23 rfl rfl hy80) (fun _ => rfl)) (fun v83 => ?_)
          refine JL_bnd fun r84 hr85 => ?_
          refine JL_call (wants_none rfl) rfl Try.call54 rfl (Ca_self (fun _ => rfl) fun w hh => c_impl_movesOf _ w (fun _ hk => hk.elim) _ _ (hh.rd0 1 rfl) _ _ (hh.rd0 0 rfl) _ hr85) (fun x86 => ?_)
          obtain ⟨x86_0, x86_1⟩ := x86
          refine JL_q (wants_none rfl) rfl (ex_move rfl) ?_
          refine JL_q (wants_none rfl) rfl (ex_extract rfl rfl) ?_
          refine JL_q (wants_none rfl) rfl (ex_extract rfl rfl) ?_
          refine JL_q (wants_none rfl) rfl (ex_assign rfl) ?_
          refine JL_q (wants_none rfl) rfl (ex_assign rfl) ?_
          refine JL_nil ?_
          refine N_then ?_
          refine J_seq ?_
          refine J_cut' (S' := Bool) (G' := Unit) (fun s87 _ => [(0, v0_), (2, .int .i64 p2), (7, .pointer (some ⟨b2, 0, none⟩)), (8, .int .i64 s75.2.2.2), (9, x86_0)]) (fun s87 _ => [.rd v0_ p0, .od 147 (.slice (some ⟨b81, 0, none⟩) s75.1.length cap82) s75.1 g76_1, mpf Value.string (Value.int .i64) b1 s75.2.1, .bx b2 103 [(.slice (some ⟨b81, 0, none⟩) s75.1.length cap82), .map (some b1), .bool s87], .od 95 x86_0 r84.1 x86_1]) ?_ (fun s87 g88 => ?_)
          · refine J_region ?_
            refine JL_q (wants_none rfl) rfl (ex_move rfl) ?_
            refine JL_q (wants_none rfl) rfl (ex_move rfl) ?_
            refine JL_q (wants_none rfl) rfl (ex_nilCheck rfl) ?_
            refine JL_q (wants_none rfl) rfl (ex_fieldAddr fi_103_2 rfl rfl) ?_
            refine JL_q (wants_none rfl) rfl (ex_load_bx 5 ti_4 rfl rfl rfl) ?_
            refine JL_q (wants_none rfl) rfl (ex_move rfl) ?_
            refine JL_cond (fun h89 => ?_) (fun h89 => ?_)
            · refine JL_q (wants_some rfl rfl rfl h89) rfl (ex_move rfl) ?_
              refine JL_q (wants_some rfl rfl rfl h89) rfl (ex_not rfl) ?_
              refine JL_q (wants_none rfl) rfl (ex_pick_true rfl h89 rfl) ?_
              refine JL_q (wants_none rfl) rfl (ex_nilCheck rfl) ?_
              refine JL_q (wants_none rfl) rfl (ex_fieldAddr fi_103_2 rfl rfl) ?_
              refine JL_sk (wants_none rfl) (sk_store_bx' 5 ti_4 rfl rfl (fun w hh => cv_bool) rfl rfl rfl rfl) ?_
              refine JL_nil ?_
              exact N_meet' () ⟨rfl, rfl, rfl, rfl, rfl, trivial⟩ [2, 3, 4, 5, 0] rfl rfl
            · refine JL_passed rfl rfl rfl h89 ?_
              refine JL_passed rfl rfl rfl h89 ?_
              refine JL_q (wants_none rfl) rfl (ex_pick_false rfl h89 rfl) ?_
              refine JL_q (wants_none rfl) rfl (ex_nilCheck rfl) ?_
              refine JL_q (wants_none rfl) rfl (ex_fieldAddr fi_103_2 rfl rfl) ?_
              refine JL_sk (wants_none rfl) (sk_store_bx' 5 ti_4 rfl rfl (fun w hh => cv_bool) rfl rfl rfl rfl) ?_
              refine JL_nil ?_
              exact N_meet' () ⟨rfl, rfl, rfl, rfl, rfl, trivial⟩ [2, 3, 4, 5, 0] rfl rfl
          · refine N_then ?_
            refine J_seq ?_
            refine J_region ?_
            refine JL_q (wants_none rfl) rfl (ex_move rfl) ?_
            refine JL_q (wants_none rfl) rfl (ex_od 4 rfl (ex_len_ow 4 Try.underlying90 rfl rfl)) ?_
            refine JL_q (wants_none rfl) rfl (ex_move rfl) ?_
            refine JL_nil ?_
            refine N_then ?_
            refine J_tail 4 rfl 0 (fun ts90 hts91 hln92 => ?_)
            refine J_loop' (S := (List Gfound) × List (ByteArray × Int) × Int) (G := Value × List Nat) (F_impl_searched_L2 s75 r84) (fun s93 g94 => [(0, v0_), (2, .int .i64 p2), (7, .pointer (some ⟨b2, 0, none⟩)), (8, .int .i64 s75.2.2.2), (62, x86_0), (63, .int .i64 (r84.1.length : Int)), (64, .int .i64 s93.2.2)]) (fun s93 g94 => [.rd v0_ p0, .od 147 g94.1 s93.1 g94.2, mpf Value.string (Value.int .i64) b1 s93.2.1, .bx b2 103 [g94.1, .map (some b1), .bool s87], .rd x86_0 r84.1, .rd x86_0 ts90, hld (tlB ts90 s93.2.2)]) (s75.1, s75.2.1, 0) ((.slice (some ⟨b81, 0, none⟩) s75.1.length cap82), g76_1) ⟨rfl, rfl, rfl, rfl, rfl, rfl, rfl, trivial⟩ [2, 3, 4, 5, 6, 1, 0] rfl rfl (fun s93 g94 => ?_) (fun s93 g94 => ?_)
            · obtain ⟨g94_0, g94_1⟩ := g94
              unfold F_impl_searched_L2
              refine J_seq ?_
              refine J_region ?_
              refine JL_q (wants_none rfl) rfl (ex_lss rfl rfl) ?_
              refine JL_nil ?_
              refine N_then ?_
              refine J_seq ?_
              refine J_if rfl (fun h95 => ?_) (fun h95 => ?_)
              · refine J_skip ?_
                refine N_then ?_
                refine J_seq ?_
                refine J_block ?_
                refine J_seq ?_
                refine J_region ?_
                refine JL_bnd fun y96 hy97 => ?_
                obtain ⟨t99, ht100, hx101⟩ := tl_idx hts91 hy97
                refine JL_st (wants_none rfl) rfl (st_index 5 Try.underlying90 ti_95 rfl rfl rfl ht100) (fun q98 => ?_)
                refine JL_st (wants_none rfl) rfl (st_load_pt_o 0 (Gmove.opT t99 hx101) ti_95 rfl rfl) (fun v102 => ?_)
                refine JL_ctx (fun w hh => hh.tl_take 0 8 rfl rfl (tl_next hln92 ht100)) ?_
                refine JL_st (wants_none rfl) rfl (st_alloc zi_95 rfl) (fun b103 => ?_)
                refine JL_sk (wants_none rfl) (sk_store_bx' 0 ti_95 rfl rfl (fun w hh => (cv_aggs ⟨cv_int, cv_int, (hh.cv 1 rfl), trivial⟩)) rfl rfl rfl rfl) ?_
                refine JL_nil ?_
                refine N_then ?_
                refine J_seq ?_
                refine J_region ?_
                refine JL_q (wants_none rfl) rfl (ex_move rfl) ?_
                refine JL_q (wants_none rfl) rfl (ex_load_bx_agg 0 ti_95 rfl rfl rfl rfl) ?_
                refine JL_q (wants_none rfl) rfl (ex_move rfl) ?_
                refine JL_q (wants_none rfl) rfl (ex_buildN [(0, .agg #[.int .i64 y96.rule, .int .i64 y96.at_, v102], [.int .i64 y96.rule, .int .i64 y96.at_, v102]), (1, .int .i64 s75.2.2.2, [.int .i64 s75.2.2.2])] si_147 rfl (.cons fi_147_0 rfl rfl rfl (.cons fi_147_1 rfl rfl rfl .nil)) (fun w hh => ⟨(cv_aggs ⟨cv_int, cv_int, (hh.cv 1 rfl), trivial⟩), cv_int, trivial⟩)) ?_
                refine JL_inline (wants_none rfl) rfl Try.call103 rfl Try.func103 rfl Try.ntmps103 rfl rfl (fun K_ hK104 => ?_)
                refine J_seq ?_
                refine J_region ?_
                refine JL_st (wants_none rfl) rfl (st_box' rfl (fun w hh => (cv_aggs ⟨cv_int, cv_int, (hh.cv 1 rfl), cv_int, trivial⟩))) (fun b105 => ?_)
                refine JL_nil ?_
                refine N_then ?_
                refine J_seq ?_
                refine J_region ?_
                refine JL_q (wants_none rfl) rfl (ex_fieldAddr fi_147_0 rfl rfl) ?_
                refine JL_q (wants_none rfl) rfl (ex_fieldAddr fi_95_2 rfl rfl) ?_
                refine JL_q (wants_none rfl) rfl (ex_load_bx 0 ti_23 rfl rfl rfl) ?_
                refine JL_bnd fun r106 hr107 => ?_
                refine JL_call (wants_none rfl) rfl Try.call55 rfl (Ca_of0 fun w hh => c_impl_keyOf _ w (fun _ hk => hk.elim) _ _ (hh.rd0 2 rfl) _ hr107) (fun _ => ?_)
                refine JL_q (wants_none rfl) rfl (ex_assign rfl) ?_
                refine JL_nil ?_
                refine N_then ?_
                refine J_seq ?_
                refine J_region ?_
                refine JL_q (wants_none rfl) rfl (ex_move rfl) ?_
                refine JL_q (wants_none rfl) rfl (ex_nilCheck rfl) ?_
                refine JL_q (wants_none rfl) rfl (ex_fieldAddr fi_103_1 rfl rfl) ?_
                refine JL_q (wants_none rfl) rfl (ex_load_bx 9 ti_101 rfl rfl rfl) ?_
                refine JL_q (wants_none rfl) rfl (ex_move rfl) ?_
                refine JL_q (wants_none rfl) rfl (ex_lookup_ok (x := r106) (z := 0) 8 key_9 Try.underlying101 zi_3 rfl rfl rfl rfl rfl) ?_
                refine JL_q (wants_none rfl) rfl (ex_move rfl) ?_
                refine JL_q (wants_none rfl) rfl (ex_extract rfl rfl) ?_
                refine JL_q (wants_none rfl) rfl (ex_extract rfl rfl) ?_
                refine JL_q (wants_none rfl) rfl (ex_assign rfl) ?_
                refine JL_q (wants_none rfl) rfl (ex_assign rfl) ?_
                refine JL_nil ?_
                refine N_then ?_
                refine J_seq ?_
                refine J_region ?_
                refine JL_q (wants_none rfl) rfl (ex_move rfl) ?_
                refine JL_q (wants_none rfl) rfl (ex_not rfl) ?_
                refine JL_nil ?_
                refine N_then ?_
                refine J_if rfl (fun h108 => ?_) (fun h108 => ?_)
                · refine J_seq ?_
                  refine J_draw [8] (by kernel_rfl) ?_
                  refine JP_take (i := 0) [0, 1, 2, 3, 4, 5, 6, 7, 9, 10, 11, 12] [8] rfl (by kernel_rfl) (by kernel_rfl) (by kernel_rfl) rfl rfl (wants_none rfl) rfl (ex_move rfl) ?_
                  refine JP_take (i := 1) [0, 1, 2, 3, 4, 5, 6, 7, 9, 10, 11, 12] [8] rfl (by kernel_rfl) (by kernel_rfl) (by kernel_rfl) rfl rfl (wants_none rfl) rfl (ex_nilCheck rfl) ?_
                  refine JP_take (i := 2) [0, 1, 2, 3, 4, 5, 6, 7, 9, 10, 11, 12] [8] rfl (by kernel_rfl) (by kernel_rfl) (by kernel_rfl) rfl rfl (wants_none rfl) rfl (ex_fieldAddr fi_103_1 rfl rfl) ?_
                  refine JP_take (i := 3) [0, 1, 2, 3, 4, 5, 6, 7, 9, 10, 11, 12] [8] rfl (by kernel_rfl) (by kernel_rfl) (by kernel_rfl) rfl rfl (wants_none rfl) rfl (ex_load_bx 8 ti_101 rfl rfl rfl) ?_
                  refine JP_take (i := 4) [0, 1, 2, 3, 4, 5, 6, 7, 9, 10, 11, 12] [8] rfl (by kernel_rfl) (by kernel_rfl) (by kernel_rfl) rfl rfl (wants_none rfl) rfl (ex_move rfl) ?_
                  refine JP_take (i := 5) [0, 1, 2, 3, 4, 5, 6, 7, 9, 10, 11, 12] [8] rfl (by kernel_rfl) (by kernel_rfl) (by kernel_rfl) rfl rfl (wants_none rfl) rfl (ex_move rfl) ?_
                  refine JP_take (i := 6) [0, 1, 2, 3, 4, 5, 6, 7, 9, 10, 11, 12] [8] rfl (by kernel_rfl) (by kernel_rfl) (by kernel_rfl) rfl rfl (wants_none rfl) rfl (ex_nilCheck rfl) ?_
                  refine JP_take (i := 7) [0, 1, 2, 3, 4, 5, 6, 7, 9, 10, 11, 12] [8] rfl (by kernel_rfl) (by kernel_rfl) (by kernel_rfl) rfl rfl (wants_none rfl) rfl (ex_fieldAddr fi_103_0 rfl rfl) ?_
                  refine JP_take (i := 8) [0, 1, 2, 3, 4, 5, 6, 7, 9, 10, 11, 12] [8] rfl (by kernel_rfl) (by kernel_rfl) (by kernel_rfl) rfl rfl (wants_none rfl) rfl (ex_load_bx 8 ti_100 rfl rfl rfl) ?_
                  refine JP_take (i := 9) [0, 1, 2, 3, 4, 5, 6, 7, 9, 10, 11, 12] [8] rfl (by kernel_rfl) (by kernel_rfl) (by kernel_rfl) rfl rfl (wants_none rfl) rfl (ex_od 7 rfl (ex_len_ow 7 Try.underlying100 rfl rfl)) ?_
                  refine JP_go [0, 1, 2, 3, 4, 5, 6, 7, 9, 10, 11, 12] [8] rfl rfl rfl (fun w110 h1_111 hp109 => ?_)
                  refine JD_one (i := 10) (by kernel_rfl) ?_
                  refine JO_sk rfl (wants_none rfl) (sk_mapUpdate (x := r106) (y := (s93.1.length : Int)) 8 key_9 Try.underlying101 rfl rfl rfl rfl rfl rfl rfl rfl) (sub_mp 0 rfl) ?_
                  refine JD_done (by kernel_rfl) ?_
                  refine N_then ?_
                  refine J_draw [7, 9] (by kernel_rfl) ?_
                  refine JP_take (i := 0) [0, 1, 2, 3, 4, 5, 6, 8, 10, 11, 12] [7, 9] rfl (by kernel_rfl) (by kernel_rfl) (by kernel_rfl) rfl rfl (wants_none rfl) rfl (ex_move rfl) ?_
                  refine JP_take (i := 1) [0, 1, 2, 3, 4, 5, 6, 8, 10, 11, 12] [7, 9] rfl (by kernel_rfl) (by kernel_rfl) (by kernel_rfl) rfl rfl (wants_none rfl) rfl (ex_move rfl) ?_
                  refine JP_take (i := 2) [0, 1, 2, 3, 4, 5, 6, 8, 10, 11, 12] [7, 9] rfl (by kernel_rfl) (by kernel_rfl) (by kernel_rfl) rfl rfl (wants_none rfl) rfl (ex_nilCheck rfl) ?_
                  refine JP_take (i := 3) [0, 1, 2, 3, 4, 5, 6, 8, 10, 11, 12] [7, 9] rfl (by kernel_rfl) (by kernel_rfl) (by kernel_rfl) rfl rfl (wants_none rfl) rfl (ex_fieldAddr fi_103_0 rfl rfl) ?_
                  refine JP_take (i := 5) [0, 1, 2, 3, 4, 5, 6, 8, 10, 11, 12] [7, 9] rfl (by kernel_rfl) (by kernel_rfl) (by kernel_rfl) rfl rfl (wants_none rfl) rfl (ex_load_bx_agg 0 ti_147 rfl rfl rfl rfl) ?_
                  refine JP_go [0, 1, 2, 3, 4, 5, 6, 8, 10, 11, 12] [7, 9] rfl rfl rfl (fun w113 h1_114 hp112 => ?_)
                  refine JD_two (i := 4) (j := 6) (by kernel_rfl) ?_ ?_
                  · refine JO_q rfl (wants_none rfl) rfl (ex_load_bx 9 ti_100 rfl rfl rfl) ?_
                    refine JD_one (i := 6) (by kernel_rfl) ?_
                    refine JO_st rfl (wants_none rfl) rfl (st_buildSlice_od (vs := [.agg #[.int .i64 y96.rule, .int .i64 y96.at_, v102, .int .i64 s75.2.2.2]]) (B := (t99.B ++ [])) ([(⟨y96.rule, y96.at_, y96.word, s75.2.2.2⟩ : Gfound)] : List Gfound) [3] Try.underlying100 ti_147 zi_147 rfl rfl rfl rfl rfl (fun w hh => (dwv_cons (Gfound.dw (hh.dw 3 rfl)) dwv_nil))) (fun _ hk => nomatch hk) (fun b115 => ?_)
                    refine JD_bnd fun z116 hz117 => ?_
                    refine JD_one (i := 7) (by kernel_rfl) ?_
                    refine JO_st rfl (wants_none rfl) rfl (st_append_od 8 0 Try.underlying100 ti_147 zi_147 rfl bi_147 rfl rfl rfl rfl rfl rfl hz117) (sub_od 0 rfl) (fun v118 => ?_)
                    refine JD_take (i := 8) hp112 rfl (by kernel_rfl) (by kernel_rfl) (by kernel_rfl) (wants_none rfl) rfl (ex_nilCheck rfl) ?_
                    refine JD_take (i := 9) hp112 rfl (by kernel_rfl) (by kernel_rfl) (by kernel_rfl) (wants_none rfl) rfl (ex_fieldAddr fi_103_0 rfl rfl) ?_
                    refine JD_one (i := 10) (by kernel_rfl) ?_
                    refine JO_sk rfl (wants_none rfl) (sk_store_bx' 10 ti_100 rfl rfl (fun w hh => (hh.cv_od 8 rfl)) rfl rfl rfl rfl) (sub_bx 1 rfl) ?_
                    refine JD_done (by kernel_rfl) ?_
                    refine N_inl0 (.inr rfl) hK104 rfl ?_
                    refine JL_nil ?_
                    refine N_then ?_
                    refine J_seq ?_
                    refine J_region ?_
                    refine JL_q (wants_none rfl) rfl (ex_move rfl) ?_
                    refine JL_q (wants_none rfl) rfl (ex_nilCheck rfl) ?_
                    refine JL_q (wants_none rfl) rfl (ex_fieldAddr fi_103_0 rfl rfl) ?_
                    refine JL_q (wants_none rfl) rfl (ex_load_bx 10 ti_100 rfl rfl rfl) ?_
                    refine JL_q (wants_none rfl) rfl (ex_od 8 rfl (ex_len_ow 8 Try.underlying100 rfl rfl)) ?_
                    refine JL_q (wants_none rfl) rfl (ex_eql rfl rfl) ?_
                    refine JL_nil ?_
                    refine N_then ?_
                    refine J_if rfl (fun h119 => ?_) (fun h119 => ?_)
                    · refine J_seq ?_
                      refine J_region ?_
                      refine JL_q (wants_none rfl) rfl (ex_move rfl) ?_
                      refine JL_q (wants_none rfl) rfl (ex_nilCheck rfl) ?_
                      refine JL_q (wants_none rfl) rfl (ex_fieldAddr fi_103_2 rfl rfl) ?_
                      refine JL_sk (wants_none rfl) (sk_store_bx' 10 ti_4 rfl rfl (fun w hh => cv_bool) rfl rfl rfl rfl) ?_
                      refine JL_nil ?_
                      refine N_then ?_
                      refine J_seq ?_
                      refine J_region ?_
                      refine JL_q (wants_none rfl) rfl (ex_move rfl) ?_
                      refine JL_q (wants_none rfl) rfl (ex_assign rfl) ?_
                      refine JL_nil ?_
                      refine N_then ?_
                      refine J_ret ?_
                      refine N_block_ret ?_
                      refine N_then_ret ?_
                      refine N_round_ret ?_
                      refine N_block_ret ?_
                      refine N_then_ret ?_
                      refine N_round_ret ?_
                      refine N_then_ret ?_
                      exact N_ret1 rfl (rv_tmp rfl) (fun w hh => ⟨(v118, (g94_1 ++ (t99.B ++ [])), b2, b1), rfl, hh.sel [8, 10, 9] rfl⟩)
                    · refine J_skip ?_
                      refine N_block ?_
                      refine N_then ?_
                      refine J_region ?_
                      refine JL_q (wants_none rfl) rfl (ex_add rfl rfl) ?_
                      refine JL_q (wants_none rfl) rfl (ex_move rfl) ?_
                      refine JL_nil ?_
                      exact N_next' (v118, (g94_1 ++ (t99.B ++ []))) ⟨rfl, rfl, rfl, rfl, rfl, rfl, rfl, trivial⟩ [7, 8, 9, 10, 11, 12, 13] rfl rfl
                  · refine JO_st rfl (wants_none rfl) rfl (st_buildSlice_od (vs := [.agg #[.int .i64 y96.rule, .int .i64 y96.at_, v102, .int .i64 s75.2.2.2]]) (B := (t99.B ++ [])) ([(⟨y96.rule, y96.at_, y96.word, s75.2.2.2⟩ : Gfound)] : List Gfound) [3] Try.underlying100 ti_147 zi_147 rfl rfl rfl rfl rfl (fun w hh => (dwv_cons (Gfound.dw (hh.dw 3 rfl)) dwv_nil))) (fun _ hk => nomatch hk) (fun b120 => ?_)
                    refine JD_one (i := 4) (by kernel_rfl) ?_
                    refine JO_q rfl (wants_none rfl) rfl (ex_load_bx 10 ti_100 rfl rfl rfl) ?_
                    refine JD_bnd fun z121 hz122 => ?_
                    refine JD_one (i := 7) (by kernel_rfl) ?_
                    refine JO_st rfl (wants_none rfl) rfl (st_append_od 8 0 Try.underlying100 ti_147 zi_147 rfl bi_147 rfl rfl rfl rfl rfl rfl hz122) (sub_od 0 rfl) (fun v123 => ?_)
                    refine JD_take (i := 8) hp112 rfl (by kernel_rfl) (by kernel_rfl) (by kernel_rfl) (wants_none rfl) rfl (ex_nilCheck rfl) ?_
                    refine JD_take (i := 9) hp112 rfl (by kernel_rfl) (by kernel_rfl) (by kernel_rfl) (wants_none rfl) rfl (ex_fieldAddr fi_103_0 rfl rfl) ?_
                    refine JD_one (i := 10) (by kernel_rfl) ?_
                    refine JO_sk rfl (wants_none rfl) (sk_store_bx' 10 ti_100 rfl rfl (fun w hh => (hh.cv_od 8 rfl)) rfl rfl rfl rfl) (sub_bx 1 rfl) ?_
                    refine JD_done (by kernel_rfl) ?_
                    refine N_inl0 (.inr rfl) hK104 rfl ?_
                    refine JL_nil ?_
                    refine N_then ?_
                    refine J_seq ?_
                    refine J_region ?_
                    refine JL_q (wants_none rfl) rfl (ex_move rfl) ?_
                    refine JL_q (wants_none rfl) rfl (ex_nilCheck rfl) ?_
                    refine JL_q (wants_none rfl) rfl (ex_fieldAddr fi_103_0 rfl rfl) ?_
                    refine JL_q (wants_none rfl) rfl (ex_load_bx 10 ti_100 rfl rfl rfl) ?_
                    refine JL_q (wants_none rfl) rfl (ex_od 8 rfl (ex_len_ow 8 Try.underlying100 rfl rfl)) ?_
                    refine JL_q (wants_none rfl) rfl (ex_eql rfl rfl) ?_
                    refine JL_nil ?_
                    refine N_then ?_
                    refine J_if rfl (fun h124 => ?_) (fun h124 => ?_)
                    · refine J_seq ?_
                      refine J_region ?_
                      refine JL_q (wants_none rfl) rfl (ex_move rfl) ?_
                      refine JL_q (wants_none rfl) rfl (ex_nilCheck rfl) ?_
                      refine JL_q (wants_none rfl) rfl (ex_fieldAddr fi_103_2 rfl rfl) ?_
                      refine JL_sk (wants_none rfl) (sk_store_bx' 10 ti_4 rfl rfl (fun w hh => cv_bool) rfl rfl rfl rfl) ?_
                      refine JL_nil ?_
                      refine N_then ?_
                      refine J_seq ?_
                      refine J_region ?_
                      refine JL_q (wants_none rfl) rfl (ex_move rfl) ?_
                      refine JL_q (wants_none rfl) rfl (ex_assign rfl) ?_
                      refine JL_nil ?_
                      refine N_then ?_
                      refine J_ret ?_
                      refine N_block_ret ?_
                      refine N_then_ret ?_
                      refine N_round_ret ?_
                      refine N_block_ret ?_
                      refine N_then_ret ?_
                      refine N_round_ret ?_
                      refine N_then_ret ?_
                      exact N_ret1 rfl (rv_tmp rfl) (fun w hh => ⟨(v123, (g94_1 ++ (t99.B ++ [])), b2, b1), rfl, hh.sel [8, 10, 9] rfl⟩)
                    · refine J_skip ?_
                      refine N_block ?_
                      refine N_then ?_
                      refine J_region ?_
                      refine JL_q (wants_none rfl) rfl (ex_add rfl rfl) ?_
                      refine JL_q (wants_none rfl) rfl (ex_move rfl) ?_
                      refine JL_nil ?_
                      exact N_next' (v123, (g94_1 ++ (t99.B ++ []))) ⟨rfl, rfl, rfl, rfl, rfl, rfl, rfl, trivial⟩ [7, 8, 9, 10, 11, 12, 13] rfl rfl
                · refine J_skip ?_
                  refine N_inl0 (.inr rfl) hK104 rfl ?_
                  refine JL_nil ?_
                  refine N_then ?_
                  refine J_seq ?_
                  refine J_region ?_
                  refine JL_q (wants_none rfl) rfl (ex_move rfl) ?_
                  refine JL_q (wants_none rfl) rfl (ex_nilCheck rfl) ?_
                  refine JL_q (wants_none rfl) rfl (ex_fieldAddr fi_103_0 rfl rfl) ?_
                  refine JL_q (wants_none rfl) rfl (ex_load_bx 9 ti_100 rfl rfl rfl) ?_
                  refine JL_q (wants_none rfl) rfl (ex_od 7 rfl (ex_len_ow 7 Try.underlying100 rfl rfl)) ?_
                  refine JL_q (wants_none rfl) rfl (ex_eql rfl rfl) ?_
                  refine JL_nil ?_
                  refine N_then ?_
                  refine J_if rfl (fun h125 => ?_) (fun h125 => ?_)
                  · refine J_seq ?_
                    refine J_region ?_
                    refine JL_q (wants_none rfl) rfl (ex_move rfl) ?_
                    refine JL_q (wants_none rfl) rfl (ex_nilCheck rfl) ?_
                    refine JL_q (wants_none rfl) rfl (ex_fieldAddr fi_103_2 rfl rfl) ?_
                    refine JL_sk (wants_none rfl) (sk_store_bx' 9 ti_4 rfl rfl (fun w hh => cv_bool) rfl rfl rfl rfl) ?_
                    refine JL_nil ?_
                    refine N_then ?_
                    refine J_seq ?_
                    refine J_region ?_
                    refine JL_q (wants_none rfl) rfl (ex_move rfl) ?_
                    refine JL_q (wants_none rfl) rfl (ex_assign rfl) ?_
                    refine JL_nil ?_
                    refine N_then ?_
                    refine J_ret ?_
                    refine N_block_ret ?_
                    refine N_then_ret ?_
                    refine N_round_ret ?_
                    refine N_block_ret ?_
                    refine N_then_ret ?_
                    refine N_round_ret ?_
                    refine N_then_ret ?_
                    exact N_ret1 rfl (rv_tmp rfl) (fun w hh => ⟨(g94_0, g94_1, b2, b1), rfl, hh.sel [7, 9, 8] rfl⟩)
                  · refine J_skip ?_
                    refine N_block ?_
                    refine N_then ?_
                    refine J_region ?_
                    refine JL_q (wants_none rfl) rfl (ex_add rfl rfl) ?_
                    refine JL_q (wants_none rfl) rfl (ex_move rfl) ?_
                    refine JL_nil ?_
                    exact N_next' (g94_0, g94_1) ⟨rfl, rfl, rfl, rfl, rfl, rfl, rfl, trivial⟩ [6, 7, 8, 9, 10, 11, 12] rfl rfl
              · refine J_exit ?_
                refine N_then_exit ?_
                exact N_break' (g94_0, g94_1) ⟨rfl, rfl, rfl, rfl, rfl, rfl, rfl, trivial⟩ [0, 1, 2, 3, 4, 5, 6] rfl rfl
            · obtain ⟨g94_0, g94_1⟩ := g94
              refine N_block ?_
              refine N_then ?_
              refine J_region ?_
              refine JL_q (wants_none rfl) rfl (ex_move rfl) ?_
              refine JL_q (wants_none rfl) rfl (ex_add rfl rfl) ?_
              refine JL_q (wants_none rfl) rfl (ex_assign rfl) ?_
              refine JL_nil ?_
              exact N_next' (g94_0, g94_1) ⟨rfl, rfl, rfl, rfl, trivial⟩ [0, 1, 2, 3] rfl rfl
      · refine J_exit ?_
        refine N_then_exit ?_
        exact N_break' (g76_0, g76_1) ⟨rfl, rfl, rfl, rfl, trivial⟩ [0, 1, 2, 3] rfl rfl
    · obtain ⟨g76_0, g76_1⟩ := g76
      refine N_then ?_
      refine J_seq ?_
      refine J_region ?_
      refine JL_q (wants_none rfl) rfl (ex_move rfl) ?_
      refine JL_q (wants_none rfl) rfl (ex_assign rfl) ?_
      refine JL_nil ?_
      refine N_then ?_
      refine J_ret ?_
      exact N_ret1 rfl (rv_tmp rfl) (fun w hh => ⟨(g76_0, g76_1, b2, b1), rfl, hh.sel [1, 3, 2] rfl⟩)

set_option maxHeartbeats 40000000 in
theorem c_impl_ReachWords (A : Nat → Prop) (w : World) (hA : ∀ k, A k → k < w.heap.size) (v0_ : Value) (p0 : (List GRewrite)) (hp0 : Rd A w v0_ p0) (v1_ : Value) (p1 : (List Int)) (hp1 : Rd A w v1_ p1) (p2 : Int) (r : (List (List Int)) × Bool × Int) (hr : F_impl_ReachWords p0 p1 p2 = some r) :
    Con Try.prog 41 [v0_, v1_, .int .i64 p2] A w (fun x_ : Value × List Nat => .tuple #[x_.1, .bool r.2.1, .int .i64 r.2.2]) (fun x_ => [.od 23 x_.1 r.1 x_.2]) := by
  refine Con_of (v := fun (r : (List (List Int)) × Bool × Int) (x_ : Value × List Nat) => .tuple #[x_.1, .bool r.2.1, .int .i64 r.2.2]) (fs := fun r x_ => [.od 23 x_.1 r.1 x_.2]) Try.func41 rfl Try.ntmps41 rfl (((SH.start hA).start_rd rfl hp0).start_rd rfl hp1) rfl ?_ hr
  unfold F_impl_ReachWords
  refine J_seq ?_
  refine J_region ?_
  refine JL_q (wants_none rfl) rfl (ex_assign rfl) ?_
  refine JL_q (wants_none rfl) rfl (ex_assign rfl) ?_
  refine JL_q (wants_none rfl) rfl (ex_assign rfl) ?_
  refine JL_nil ?_
  refine N_then ?_
  refine J_seq ?_
  refine J_seq ?_
  refine J_region ?_
  refine JL_q (wants_none rfl) rfl (ex_move rfl) ?_
  refine JL_q (wants_none rfl) rfl (ex_move rfl) ?_
  refine JL_q (wants_none rfl) rfl (ex_move rfl) ?_
  refine JL_st (wants_none rfl) rfl (st_buildSlice (vs := [v1_]) ([p1] : List (List Int)) Try.underlying25 ti_23 zi_23 rfl rfl rfl (fun w hh => ⟨(hh.rd 0 rfl), trivial⟩)) (fun b1 => ?_)
  refine JL_bnd fun r2 hr3 => ?_
  refine JL_call (wants_none rfl) rfl Try.call57 rfl (Ca_of0 fun w hh => c_impl_searchCode _ w (fun _ hk => hk.elim) _ _ (hh.rd0 2 rfl) _ _ _ (hh.ow0 0 rfl) _ hr3) (fun _ => ?_)
  refine JL_q (wants_none rfl) rfl (ex_assign rfl) ?_
  refine JL_nil ?_
  refine N_then ?_
  refine J_seq ?_
  refine J_region ?_
  refine JL_q (wants_none rfl) rfl (ex_move rfl) ?_
  refine JL_q (wants_none rfl) rfl (ex_neq rfl rfl) ?_
  refine JL_nil ?_
  refine N_then ?_
  refine J_if rfl (fun h4 => ?_) (fun h4 => ?_)
  · refine J_seq ?_
    refine J_region ?_
    refine JL_q (wants_none rfl) rfl (ex_move rfl) ?_
    refine JL_q (wants_none rfl) rfl (ex_assign rfl) ?_
    refine JL_q (wants_none rfl) rfl (ex_assign rfl) ?_
    refine JL_q (wants_none rfl) rfl (ex_assign rfl) ?_
    refine JL_nil ?_
    refine N_then ?_
    refine J_ret ?_
    refine N_then_ret ?_
    refine N_ctx (fun w hh => SH.od_nil (α := (List Int)) 23 hh) ?_
    exact N_ret3 rfl (rv_tmp rfl) (rv_tmp rfl) (rv_tmp rfl) (fun w hh => ⟨((.slice none 0 0 : Value), ([] : List Nat)), rfl, hh.sel [0] rfl⟩)
  · refine J_skip ?_
    refine N_then ?_
    refine J_seq ?_
    refine J_region ?_
    refine JL_q (wants_none rfl) rfl (ex_move rfl) ?_
    refine JL_q (wants_none rfl) rfl (ex_move rfl) ?_
    refine JL_q (wants_none rfl) rfl (ex_move rfl) ?_
    refine JL_bnd fun r5 hr6 => ?_
    refine JL_call (wants_none rfl) rfl Try.call58 rfl (Ca_of (fun _ => rfl) fun w hh => c_impl_searched _ w hh.av' _ _ (hh.rd 2 rfl) _ _ (hh.rd 1 rfl) _ _ hr6) (fun x7 => ?_)
    obtain ⟨x7_0, x7_1, x7_2, x7_3⟩ := x7
    refine JL_st (wants_none rfl) rfl (st_buildSlice_od (vs := []) (B := ([] : List Nat)) ([] : List (List Int)) [] Try.underlying25 ti_23 zi_23 rfl rfl rfl rfl rfl (fun w hh => dwv_nil)) (fun b8 => ?_)
    refine JL_q (wants_none rfl) rfl (ex_assign rfl) ?_
    refine JL_q (wants_none rfl) rfl (ex_assign rfl) ?_
    refine JL_nil ?_
    refine N_then ?_
    refine J_seq ?_
    refine J_seq ?_
    refine J_region ?_
    refine JL_q (wants_none rfl) rfl (ex_move rfl) ?_
    refine JL_q (wants_none rfl) rfl (ex_nilCheck rfl) ?_
    refine JL_q (wants_none rfl) rfl (ex_fieldAddr fi_103_0 rfl rfl) ?_
    refine JL_q (wants_none rfl) rfl (ex_load_bx 2 ti_100 rfl rfl rfl) ?_
    refine JL_q (wants_none rfl) rfl (ex_od 1 rfl (ex_len_ow 1 Try.underlying100 rfl rfl)) ?_
    refine JL_q (wants_none rfl) rfl (ex_move rfl) ?_
    refine JL_nil ?_
    refine N_then ?_
    refine J_tail 1 rfl 0 (fun ts9 hts10 hln11 => ?_)
    refine J_loop' (S := (List (List Int)) × Int) (G := Value × List Nat) (F_impl_ReachWords_L1 r5) (fun s12 g13 => [(10, .pointer (some ⟨x7_2, 0, none⟩)), (11, g13.1), (30, x7_0), (31, .int .i64 (r5.1.length : Int)), (32, .int .i64 s12.2)]) (fun s12 g13 => [.rd x7_0 r5.1, .rd x7_0 ts9, hld (tlB ts9 s12.2), mpf Value.string (Value.int .i64) x7_3 r5.2.1, .bx x7_2 103 [x7_0, .map (some x7_3), .bool r5.2.2], .od 23 g13.1 s12.1 g13.2]) (([] : List (List Int)), 0) ((.slice (some ⟨b8, 0, none⟩) 0 0), ([] : List Nat)) ⟨rfl, rfl, rfl, rfl, rfl, trivial⟩ [3, 1, 0, 5, 4, 2] rfl rfl (fun s12 g13 => ?_) (fun s12 g13 => ?_)
    · obtain ⟨g13_0, g13_1⟩ := g13
      unfold F_impl_ReachWords_L1
      refine J_seq ?_
      refine J_region ?_
      refine JL_q (wants_none rfl) rfl (ex_lss rfl rfl) ?_
      refine JL_nil ?_
      refine N_then ?_
      refine J_seq ?_
      refine J_if rfl (fun h14 => ?_) (fun h14 => ?_)
      · refine J_skip ?_
        refine N_then ?_
        refine J_seq ?_
        refine J_block ?_
        refine J_seq ?_
        refine J_region ?_
        refine JL_bnd fun y15 hy16 => ?_
        obtain ⟨t18, ht19, hx20⟩ := tl_idx hts10 hy16
        refine JL_st (wants_none rfl) rfl (st_index 1 Try.underlying100 ti_147 rfl rfl rfl ht19) (fun q17 => ?_)
        refine JL_st (wants_none rfl) rfl (st_load_pt_o 0 (Gfound.opT t18 hx20) ti_147 rfl rfl) (fun v21 => ?_)
        refine JL_ctx (fun w hh => hh.tl_take 0 4 rfl rfl (tl_next hln11 ht19)) ?_
        refine JL_st (wants_none rfl) rfl (st_alloc zi_147 rfl) (fun b22 => ?_)
        refine JL_sk (wants_none rfl) (sk_store_bx' 0 ti_147 rfl rfl (fun w hh => (cv_aggs ⟨cv_int, cv_int, (hh.cv 1 rfl), cv_int, trivial⟩)) rfl rfl rfl rfl) ?_
        refine JL_nil ?_
        refine N_then ?_
        refine J_region ?_
        refine JL_q (wants_none rfl) rfl (ex_move rfl) ?_
        refine JL_q (wants_none rfl) rfl (ex_fieldAddr fi_147_0 rfl rfl) ?_
        refine JL_q (wants_none rfl) rfl (ex_fieldAddr fi_95_2 rfl rfl) ?_
        refine JL_q (wants_none rfl) rfl (ex_load_bx 0 ti_23 rfl rfl rfl) ?_
        refine JL_st (wants_none rfl) rfl (st_buildSlice_od (vs := [v21]) (B := (t18.B ++ [])) ([y15.move_word] : List (List Int)) [2] Try.underlying25 ti_23 zi_23 rfl rfl rfl rfl rfl (fun w hh => (dwv_cons (hh.dw 2 rfl) dwv_nil))) (fun b23 => ?_)
        refine JL_bnd fun z24 hz25 => ?_
        refine JL_st (wants_none rfl) rfl (st_append_od 11 0 Try.underlying25 ti_23 zi_23 rfl bi_23 rfl rfl rfl rfl rfl rfl hz25) (fun v26 => ?_)
        refine JL_q (wants_none rfl) rfl (ex_assign rfl) ?_
        refine JL_nil ?_
        refine N_block ?_
        refine N_then ?_
        refine J_region ?_
        refine JL_q (wants_none rfl) rfl (ex_add rfl rfl) ?_
        refine JL_q (wants_none rfl) rfl (ex_move rfl) ?_
        refine JL_nil ?_
        exact N_next' (v26, (g13_1 ++ (t18.B ++ []))) ⟨rfl, rfl, rfl, rfl, rfl, trivial⟩ [6, 7, 8, 9, 10, 11] rfl rfl
      · refine J_exit ?_
        refine N_then_exit ?_
        exact N_break' (g13_0, g13_1) ⟨rfl, rfl, rfl, rfl, rfl, trivial⟩ [0, 1, 2, 3, 4, 5] rfl rfl
    · obtain ⟨g13_0, g13_1⟩ := g13
      refine N_then ?_
      refine J_seq ?_
      refine J_draw [] (by kernel_rfl) ?_
      refine JP_take (i := 0) [0, 1, 2, 3, 4, 5] [] rfl (by kernel_rfl) (by kernel_rfl) (by kernel_rfl) rfl rfl (wants_none rfl) rfl (ex_move rfl) ?_
      refine JP_take (i := 1) [0, 1, 2, 3, 4, 5] [] rfl (by kernel_rfl) (by kernel_rfl) (by kernel_rfl) rfl rfl (wants_none rfl) rfl (ex_move rfl) ?_
      refine JP_take (i := 2) [0, 1, 2, 3, 4, 5] [] rfl (by kernel_rfl) (by kernel_rfl) (by kernel_rfl) rfl rfl (wants_none rfl) rfl (ex_nilCheck rfl) ?_
      refine JP_take (i := 3) [0, 1, 2, 3, 4, 5] [] rfl (by kernel_rfl) (by kernel_rfl) (by kernel_rfl) rfl rfl (wants_none rfl) rfl (ex_fieldAddr fi_103_2 rfl rfl) ?_
      refine JP_take (i := 4) [0, 1, 2, 3, 4, 5] [] rfl (by kernel_rfl) (by kernel_rfl) (by kernel_rfl) rfl rfl (wants_none rfl) rfl (ex_load_bx 4 ti_4 rfl rfl rfl) ?_
      refine JP_take (i := 5) [0, 1, 2, 3, 4, 5] [] rfl (by kernel_rfl) (by kernel_rfl) (by kernel_rfl) rfl rfl (wants_none rfl) rfl (ex_assign rfl) ?_
      refine JP_take (i := 6) [0, 1, 2, 3, 4, 5] [] rfl (by kernel_rfl) (by kernel_rfl) (by kernel_rfl) rfl rfl (wants_none rfl) rfl (ex_assign rfl) ?_
      refine JP_take (i := 7) [0, 1, 2, 3, 4, 5] [] rfl (by kernel_rfl) (by kernel_rfl) (by kernel_rfl) rfl rfl (wants_none rfl) rfl (ex_assign rfl) ?_
      refine JP_go [] [] rfl rfl rfl (fun _ _ _ => ?_)
      refine JD_done (by kernel_rfl) ?_
      refine N_then ?_
      refine J_ret ?_
      exact N_ret3 rfl (rv_tmp rfl) (rv_tmp rfl) (rv_tmp rfl) (fun w hh => ⟨(g13_0, g13_1), rfl, hh.sel [5] rfl⟩)

set_option maxHeartbeats 40000000 in
theorem c_impl_isNormalWord_1 (A : Nat → Prop) (w : World) (hA : ∀ k, A k → k < w.heap.size) (v0_ : Value) (p0 : GRewrite) (hp0 : Rd A w v0_ p0) (v1_ : Value) (p1 : (List Int)) (hp1 : RdA A w.heap.size w v1_ p1) (r : Bool) (hr : F_impl_isNormalWord_1 p0 p1 = some r) :
    Con Try.prog 89 [v0_, v1_] A w (fun x_ : Unit => .bool r) (fun x_ => []) := by
  obtain ⟨v0_0, v0_1, rfl, hp0_0, hp0_1⟩ := GRewrite.open hp0
  refine Con_of (v := fun (r : Bool) (x_ : Unit) => .bool r) (fs := fun r x_ => []) Try.func89 rfl Try.ntmps89 rfl ((((SH.start hA).start_rd rfl hp0_0).start_rd rfl hp0_1).start_pa' rfl hp1) rfl ?_ hr
  unfold F_impl_isNormalWord_1
  refine J_seq ?_
  refine J_region ?_
  refine JL_st (wants_none rfl) rfl (st_box' rfl (fun w hh => (cv_aggs ⟨(hh.cv 2 rfl), (hh.cv 1 rfl), trivial⟩))) (fun b1 => ?_)
  refine JL_q (wants_none rfl) rfl (ex_assign rfl) ?_
  refine JL_nil ?_
  refine N_then ?_
  refine J_seq ?_
  refine J_region ?_
  refine JL_st (wants_none rfl) rfl (st_load_pa_o 1 (opens_sl _) ti_23 rfl rfl) (fun v2 => ?_)
  refine JL_q (wants_none rfl) rfl (ex_fieldAddr fi_80_0 rfl rfl) ?_
  refine JL_q (wants_none rfl) rfl (ex_load_bx 1 ti_23 rfl rfl rfl) ?_
  refine JL_bnd fun r3 hr4 => ?_
  refine JL_call (wants_none rfl) rfl Try.call90 rfl (Ca_self (fun _ => rfl) fun w hh => c_impl_occurrences _ w (fun _ hk => hk.elim) _ _ (hh.rd0 0 rfl) _ _ (hh.rd0 4 rfl) _ hr4) (fun x5 => ?_)
  refine JL_q (wants_none rfl) rfl (ex_len_ow 0 Try.underlying23 rfl rfl) ?_
  refine JL_q (wants_none rfl) rfl (ex_gtr rfl rfl) ?_
  refine JL_q (wants_none rfl) rfl (ex_assign rfl) ?_
  refine JL_nil ?_
  refine N_then ?_
  refine J_ret ?_
  exact N_ret1 rfl (rv_tmp rfl) (fun w hh => ⟨(), rfl, hh.sel [] rfl⟩)

set_option maxHeartbeats 40000000 in
theorem c_impl_isNormalWord (A : Nat → Prop) (w : World) (hA : ∀ k, A k → k < w.heap.size) (v0_ : Value) (p0 : (List GRewrite)) (hp0 : Rd A w v0_ p0) (v1_ : Value) (p1 : (List Int)) (hp1 : Rd A w v1_ p1) (r : Bool) (hr : F_impl_isNormalWord p0 p1 = some r) :
    Con Try.prog 44 [v0_, v1_] A w (fun x_ : Unit => .bool r) (fun x_ => []) := by
  refine Con_of (v := fun (r : Bool) (x_ : Unit) => .bool r) (fs := fun r x_ => []) Try.func44 rfl Try.ntmps44 rfl (((SH.start hA).start_rd rfl hp0).start_rd rfl hp1) rfl ?_ hr
  unfold F_impl_isNormalWord
  refine J_seq ?_
  refine J_region ?_
  refine JL_st (wants_none rfl) rfl (st_box' rfl (fun w hh => (hh.cv 0 rfl))) (fun b1 => ?_)
  refine JL_q (wants_none rfl) rfl (ex_assign rfl) ?_
  refine JL_nil ?_
  refine N_then ?_
  refine J_seq ?_
  refine J_region ?_
  refine JL_q (wants_none rfl) rfl (ex_move rfl) ?_
  refine JL_q (wants_none rfl) rfl (ex_makeFunc rfl) ?_
  refine JL_bnd fun r2 hr3 => ?_
  refine JL_call (wants_none rfl) rfl Try.call88 rfl (Ca_of0 fun w hh => c_slices_ContainsFunc_Simpl_Rewrite_impl_Rewrite _ w (fun _ hk => hk.elim) _ _ (hh.rd0 2 rfl) _ _ (Clo.mk (caps := [.pointer (some ⟨b1, 0, none⟩)]) Try.call89 (fun w_ hb_ v_ x_ r_ hrd_ hr_ => c_impl_isNormalWord_1 nowhere w_ (fun _ hk => hk.elim) v_ x_ hrd_ _ _ ((hh.bx_pa1 0 rfl (hh.rd0 1 rfl) rfl rfl).later hb_) _ hr_)) _ hr3) (fun _ => ?_)
  refine JL_q (wants_none rfl) rfl (ex_not rfl) ?_
  refine JL_q (wants_none rfl) rfl (ex_assign rfl) ?_
  refine JL_nil ?_
  refine N_then ?_
  refine J_ret ?_
  exact N_ret1 rfl (rv_tmp rfl) (fun w hh => ⟨(), rfl, hh.sel [] rfl⟩)

set_option maxHeartbeats 40000000 in
theorem c_impl_NormalFormsOf_1 (A : Nat → Prop) (w : World) (hA : ∀ k, A k → k < w.heap.size) (v0_ : Value) (p0 : (List Int)) (hp0 : Rd A w v0_ p0) (v1_ : Value) (p1 : (List GRewrite)) (hp1 : RdA A w.heap.size w v1_ p1) (r : Bool) (hr : F_impl_NormalFormsOf_1 p0 p1 = some r) :
    Con Try.prog 43 [v0_, v1_] A w (fun x_ : Unit => .bool r) (fun x_ => []) := by
  refine Con_of (v := fun (r : Bool) (x_ : Unit) => .bool r) (fs := fun r x_ => []) Try.func43 rfl Try.ntmps43 rfl (((SH.start hA).start_rd rfl hp0).start_pa' rfl hp1) rfl ?_ hr
  unfold F_impl_NormalFormsOf_1
  refine J_seq ?_
  refine J_region ?_
  refine JL_q (wants_none rfl) rfl (ex_assign rfl) ?_
  refine JL_nil ?_
  refine N_then ?_
  refine J_seq ?_
  refine J_region ?_
  refine JL_st (wants_none rfl) rfl (st_load_pa_o 0 (opens_sl _) ti_28 rfl rfl) (fun v1 => ?_)
  refine JL_q (wants_none rfl) rfl (ex_move rfl) ?_
  refine JL_bnd fun r2 hr3 => ?_
  refine JL_call (wants_none rfl) rfl Try.call44 rfl (Ca_of0 fun w hh => c_impl_isNormalWord _ w (fun _ hk => hk.elim) _ _ (hh.rd0 0 rfl) _ _ (hh.rd0 2 rfl) _ hr3) (fun _ => ?_)
  refine JL_q (wants_none rfl) rfl (ex_not rfl) ?_
  refine JL_q (wants_none rfl) rfl (ex_assign rfl) ?_
  refine JL_nil ?_
  refine N_then ?_
  refine J_ret ?_
  exact N_ret1 rfl (rv_tmp rfl) (fun w hh => ⟨(), rfl, hh.sel [] rfl⟩)

theorem rc_slices_DeleteFunc_SSint64_Sint64_pure (xs : List Vc) (φ : Vc → Option Bool) (ys : List Vc) (h : delG xs φ = some ys) : F_slices_DeleteFunc_SSint64_Sint64 xs φ = some ys := by
  unfold delG at h
  split at h
  · rename_i hle
    unfold F_slices_DeleteFunc_SSint64_Sint64
    refine del_run (φ := φ) (body2 := F_slices_DeleteFunc_SSint64_Sint64_L2 φ) h (fun i hi => ?_) ?_ (fun cur i j hj hi hl => ?_) (fun cur i hl => ?_)
    · simp only [F_slices_DeleteFunc_SSint64_Sint64_L1]
      rw [decide_eq_true (by omega), cond_true, idx_nat hi, bnd_some_eq, decide_eq_false (by omega), cond_false, w64_nat1 (by omega)]
    · simp only [F_slices_DeleteFunc_SSint64_Sint64_L1]
      rw [decide_eq_false (by omega), cond_false]
    · simp only [F_slices_DeleteFunc_SSint64_Sint64_L2]
      rw [decide_eq_true (by omega), cond_true, idx_nat hj, bnd_some_eq, idx_nat hi, w64_nat1 (by omega), w64_nat1 (by omega)]
      cases φ cur[j] with
      | none => rfl
      | some b => cases b <;> rfl
    · simp only [F_slices_DeleteFunc_SSint64_Sint64_L2]
      rw [decide_eq_false (by omega), cond_false]
  · cases h
set_option maxHeartbeats 40000000 in
theorem rc_slices_DeleteFunc_SSint64_Sint64 : DelCon Try.prog 42 23 F_slices_DeleteFunc_SSint64_Sint64 := by
  intro w v0_ v1_ p0 r p1 hp1 h_ hb_ hr
  refine (ConM_of (vs := [v0_, v1_]) (v := fun (r : List Vc) (v' : Value) => v') (fs := fun r v' => [.ow 23 v' r, rest w v0_.ownBlock.toList]) Try.func42 rfl Try.ntmps42 rfl (del_start h_ hb_) rfl ?_ hr).mono (fun e w2 h_ => by obtain ⟨v', he, hk⟩ := h_; exact ⟨v', he, del_end hk⟩)
  unfold F_slices_DeleteFunc_SSint64_Sint64
  refine J_seq ?_
  refine J_region ?_
  refine JL_q (wants_none rfl) rfl (ex_assign rfl) ?_
  refine JL_nil ?_
  refine N_then ?_
  refine J_seq ?_
  refine J_region ?_
  refine JL_q (wants_none rfl) rfl (ex_move rfl) ?_
  refine JL_q (wants_none rfl) rfl (ex_move rfl) ?_
  refine JL_inline (wants_none rfl) rfl Try.call87 rfl Try.func87 rfl Try.ntmps87 rfl rfl (fun K_ hK1 => ?_)
  refine J_seq ?_
  refine J_region ?_
  refine JL_q (wants_none rfl) rfl (ex_assign rfl) ?_
  refine JL_nil ?_
  refine N_then ?_
  refine J_seq ?_
  refine J_seq ?_
  refine J_region ?_
  refine JL_q (wants_none rfl) rfl (ex_move rfl) ?_
  refine JL_q (wants_none rfl) rfl (ex_len_ow 0 Try.underlying25 rfl rfl) ?_
  refine JL_q (wants_none rfl) rfl (ex_move rfl) ?_
  refine JL_nil ?_
  refine N_then ?_
  refine J_loop' (S := Int) (G := Unit) (F_slices_DeleteFunc_SSint64_Sint64_L1 p0 p1) (fun s2 _ => [(0, v0_), (1, v1_), (7, .int .i64 (p0.length : Int)), (8, .int .i64 s2)]) (fun s2 _ => [rest w v0_.ownBlock.toList, .ow 23 v0_ p0]) 0 () ⟨rfl, rfl, rfl, rfl, trivial⟩ [1, 0] rfl rfl (fun s2 g3 => ?_) (fun s2 g3 => ?_)
  · unfold F_slices_DeleteFunc_SSint64_Sint64_L1
    refine J_seq ?_
    refine J_region ?_
    refine JL_q (wants_none rfl) rfl (ex_lss rfl rfl) ?_
    refine JL_nil ?_
    refine N_then ?_
    refine J_seq ?_
    refine J_if rfl (fun h4 => ?_) (fun h4 => ?_)
    · refine J_skip ?_
      refine N_then ?_
      refine J_seq ?_
      refine J_block ?_
      refine J_seq ?_
      refine J_region ?_
      refine JL_q (wants_none rfl) rfl (ex_move rfl) ?_
      refine JL_q (wants_none rfl) rfl (ex_assign rfl) ?_
      refine JL_nil ?_
      refine N_then ?_
      refine J_seq ?_
      refine J_region ?_
      refine JL_q (wants_none rfl) rfl (ex_move rfl) ?_
      refine JL_q (wants_none rfl) rfl (ex_move rfl) ?_
      refine JL_q (wants_none rfl) rfl (ex_move rfl) ?_
      refine JL_bnd fun y5 hy6 => ?_
      refine JL_ow_open (v := v0_) 1 rfl hy6 ?_; rintro b7 cap8 rfl
      refine JL_q (wants_none rfl) rfl (ex_index_ow 1 Try.underlying25 ti_23 rfl rfl rfl hy6) ?_
      refine JL_q (wants_none rfl) rfl (ex_load_ow_vc 1 ti_23 rfl rfl hy6) ?_
      refine JL_bnd fun r10 hr11 => ?_
      refine JL_dcl 1 0 (wants_none rfl) rfl hp1 rfl rfl rfl rfl (by simp [Ctx.owns, Fact.owns]) hr11 ?_
      refine JL_nil ?_
      refine N_then ?_
      refine J_if rfl (fun h12 => ?_) (fun h12 => ?_)
      · refine J_seq ?_
        refine J_region ?_
        refine JL_q (wants_none rfl) rfl (ex_move rfl) ?_
        refine JL_q (wants_none rfl) rfl (ex_assign rfl) ?_
        refine JL_nil ?_
        refine N_then ?_
        refine J_ret ?_
        refine N_block_ret ?_
        refine N_then_ret ?_
        refine N_round_reti ?_
        refine N_then_ret ?_
        refine N_inl1 hK1 rfl (rv_tmp rfl) ?_
        refine JL_q (wants_none rfl) rfl (ex_assign rfl) ?_
        refine JL_nil ?_
        refine N_then ?_
        refine J_seq ?_
        refine J_seq ?_
        refine J_region ?_
        refine JL_q (wants_none rfl) rfl (ex_move rfl) ?_
        refine JL_q (wants_none rfl) rfl (ex_eql rfl rfl) ?_
        refine JL_nil ?_
        refine N_then ?_
        refine J_if rfl (fun h13 => ?_) (fun h13 => ?_)
        · refine J_seq ?_
          refine J_region ?_
          refine JL_q (wants_none rfl) rfl (ex_move rfl) ?_
          refine JL_q (wants_none rfl) rfl (ex_assign rfl) ?_
          refine JL_nil ?_
          refine N_then ?_
          refine J_ret ?_
          refine N_then_ret ?_
          exact N_ret1 rfl (rv_tmp rfl) (fun w hh => ⟨_, rfl, hh.sel [1, 0] rfl⟩)
        · refine J_skip ?_
          refine N_then ?_
          refine J_seq ?_
          refine J_seq ?_
          refine J_region ?_
          refine JL_q (wants_none rfl) rfl (ex_move rfl) ?_
          refine JL_q (wants_none rfl) rfl (ex_add rfl rfl) ?_
          refine JL_q (wants_none rfl) rfl (ex_assign rfl) ?_
          refine JL_nil ?_
          refine N_then ?_
          refine J_loop' (S := (List Vc) × Int × Int) (G := Unit) (F_slices_DeleteFunc_SSint64_Sint64_L2 p1) (fun s14 _ => [(0, (.slice (some ⟨b7, 0, none⟩) p0.length cap8)), (1, v1_), (5, .int .i64 s14.2.1), (6, .int .i64 s14.2.2)]) (fun s14 _ => [rest w (Value.slice (some ⟨b7, 0, none⟩) p0.length cap8).ownBlock.toList, .ow 23 (.slice (some ⟨b7, 0, none⟩) p0.length cap8) s14.1]) (p0, s2, (w64 (s2 + 1))) () ⟨rfl, rfl, rfl, rfl, trivial⟩ [0, 1] rfl rfl (fun s14 g15 => ?_) (fun s14 g15 => ?_)
          · unfold F_slices_DeleteFunc_SSint64_Sint64_L2
            refine J_seq ?_
            refine J_seq ?_
            refine J_region ?_
            refine JL_q (wants_none rfl) rfl (ex_move rfl) ?_
            refine JL_q (wants_none rfl) rfl (ex_move rfl) ?_
            refine JL_q (wants_none rfl) rfl (ex_len_ow 1 Try.underlying25 rfl rfl) ?_
            refine JL_q (wants_none rfl) rfl (ex_lss rfl rfl) ?_
            refine JL_nil ?_
            refine N_then ?_
            refine J_if rfl (fun h16 => ?_) (fun h16 => ?_)
            · refine J_skip ?_
              refine N_then ?_
              refine J_seq ?_
              refine J_block ?_
              refine J_seq ?_
              refine J_region ?_
              refine JL_q (wants_none rfl) rfl (ex_move rfl) ?_
              refine JL_q (wants_none rfl) rfl (ex_move rfl) ?_
              refine JL_bnd fun y17 hy18 => ?_
              refine JL_q (wants_none rfl) rfl (ex_index_ow 1 Try.underlying25 ti_23 rfl rfl rfl hy18) ?_
              refine JL_q (wants_none rfl) rfl (ex_load_ow_vc 1 ti_23 rfl rfl hy18) ?_
              refine JL_q (wants_none rfl) rfl (ex_assign rfl) ?_
              refine JL_nil ?_
              refine N_then ?_
              refine J_seq ?_
              refine J_region ?_
              refine JL_q (wants_none rfl) rfl (ex_move rfl) ?_
              refine JL_q (wants_none rfl) rfl (ex_move rfl) ?_
              refine JL_bnd fun r20 hr21 => ?_
              refine JL_dcl 1 0 (wants_none rfl) rfl hp1 rfl rfl rfl rfl (by simp [Ctx.owns, Fact.owns]) hr21 ?_
              refine JL_q (wants_none rfl) rfl (ex_not rfl) ?_
              refine JL_nil ?_
              refine N_then ?_
              refine J_if rfl (fun h22 => ?_) (fun h22 => ?_)
              · refine J_seq ?_
                refine J_region ?_
                refine JL_q (wants_none rfl) rfl (ex_move rfl) ?_
                refine JL_q (wants_none rfl) rfl (ex_move rfl) ?_
                refine JL_q (wants_none rfl) rfl (ex_move rfl) ?_
                refine JL_bnd fun y23 hy24 => ?_
                refine JL_q (wants_none rfl) rfl (ex_index_ow 1 Try.underlying25 ti_23 rfl rfl rfl hy24) ?_
                refine JL_sk (wants_none rfl) (sk_store_ow 1 ti_23 rfl rfl rfl hy24 (fun w hh => (Rd.mk_vc _ _ _))) ?_
                refine JL_nil ?_
                refine N_then ?_
                refine J_region ?_
                refine JL_q (wants_none rfl) rfl (ex_move rfl) ?_
                refine JL_q (wants_none rfl) rfl (ex_add rfl rfl) ?_
                refine JL_q (wants_none rfl) rfl (ex_assign rfl) ?_
                refine JL_nil ?_
                refine N_block ?_
                refine N_then ?_
                refine J_region ?_
                refine JL_q (wants_none rfl) rfl (ex_move rfl) ?_
                refine JL_q (wants_none rfl) rfl (ex_add rfl rfl) ?_
                refine JL_q (wants_none rfl) rfl (ex_assign rfl) ?_
                refine JL_nil ?_
                exact N_next' () ⟨rfl, rfl, rfl, rfl, trivial⟩ [0, 1] rfl rfl
              · refine J_skip ?_
                refine N_block ?_
                refine N_then ?_
                refine J_region ?_
                refine JL_q (wants_none rfl) rfl (ex_move rfl) ?_
                refine JL_q (wants_none rfl) rfl (ex_add rfl rfl) ?_
                refine JL_q (wants_none rfl) rfl (ex_assign rfl) ?_
                refine JL_nil ?_
                exact N_next' () ⟨rfl, rfl, rfl, rfl, trivial⟩ [0, 1] rfl rfl
            · refine J_exit ?_
              refine N_then_exit ?_
              exact N_break' () ⟨rfl, rfl, rfl, rfl, trivial⟩ [0, 1] rfl rfl
          · refine N_then ?_
            refine J_seq ?_
            refine J_region ?_
            refine JL_q (wants_none rfl) rfl (ex_move rfl) ?_
            refine JL_q (wants_none rfl) rfl (ex_move rfl) ?_
            refine JL_bnd fun z25 hz26 => ?_
            refine JL_q (wants_none rfl) rfl (ex_slice_ow 1 Try.underlying25 ti_23 rfl rfl rfl rfl hz26) ?_
            refine JL_st0 (wants_none rfl) (st_clear_at 1 Try.underlying25 ti_23 zi_23 rfl rfl hz26 rfl) (fun _ => ?_)
            refine JL_nil ?_
            refine N_then ?_
            refine J_seq ?_
            refine J_region ?_
            refine JL_q (wants_none rfl) rfl (ex_move rfl) ?_
            refine JL_q (wants_none rfl) rfl (ex_move rfl) ?_
            refine JL_bnd fun z27 hz28 => ?_
            refine JL_st (wants_none rfl) rfl (st_slice_own 1 Try.underlying25 ti_23 rfl rfl rfl hz28) (fun v29 => ?_)
            refine JL_q (wants_none rfl) rfl (ex_assign rfl) ?_
            refine JL_nil ?_
            refine N_then ?_
            refine J_ret ?_
            exact N_ret1 rfl (rv_tmp rfl) (fun w hh => ⟨_, rfl, hh.sel [1, 0] rfl⟩)
      · refine J_skip ?_
        refine N_block ?_
        refine N_then ?_
        refine J_region ?_
        refine JL_q (wants_none rfl) rfl (ex_add rfl rfl) ?_
        refine JL_q (wants_none rfl) rfl (ex_move rfl) ?_
        refine JL_nil ?_
        exact N_next' () ⟨rfl, rfl, rfl, rfl, trivial⟩ [0, 1] rfl rfl
    · refine J_exit ?_
      refine N_then_exit ?_
      exact N_break' () ⟨rfl, rfl, rfl, rfl, trivial⟩ [0, 1] rfl rfl
  · refine N_then ?_
    refine J_seq ?_
    refine J_region ?_
    refine JL_q (wants_none rfl) rfl (ex_assign rfl) ?_
    refine JL_nil ?_
    refine N_then ?_
    refine J_ret ?_
    refine N_inl1 hK1 rfl (rv_tmp rfl) ?_
    refine JL_q (wants_none rfl) rfl (ex_assign rfl) ?_
    refine JL_nil ?_
    refine N_then ?_
    refine J_seq ?_
    refine J_seq ?_
    refine J_region ?_
    refine JL_q (wants_none rfl) rfl (ex_move rfl) ?_
    refine JL_q (wants_none rfl) rfl (ex_eql rfl rfl) ?_
    refine JL_nil ?_
    refine N_then ?_
    refine J_if_true rfl (by decide) ?_
    refine J_seq ?_
    refine J_region ?_
    refine JL_q (wants_none rfl) rfl (ex_move rfl) ?_
    refine JL_q (wants_none rfl) rfl (ex_assign rfl) ?_
    refine JL_nil ?_
    refine N_then ?_
    refine J_ret ?_
    refine N_then_ret ?_
    exact N_ret1 rfl (rv_tmp rfl) (fun w hh => ⟨_, rfl, hh.sel [1, 0] rfl⟩)

set_option maxHeartbeats 40000000 in
theorem c_impl_NormalFormsOf (A : Nat → Prop) (w : World) (hA : ∀ k, A k → k < w.heap.size) (v0_ : Value) (p0 : (List GRewrite)) (hp0 : Rd A w v0_ p0) (v1_ : Value) (p1 : (List Int)) (hp1 : Rd A w v1_ p1) (p2 : Int) (r : (List (List Int)) × Bool × Int) (hr : F_impl_NormalFormsOf p0 p1 p2 = some r) :
    Con Try.prog 10 [v0_, v1_, .int .i64 p2] A w (fun x_ : Value × List Nat => .tuple #[x_.1, .bool r.2.1, .int .i64 r.2.2]) (fun x_ => [.od 23 x_.1 r.1 x_.2]) := by
  refine Con_of (v := fun (r : (List (List Int)) × Bool × Int) (x_ : Value × List Nat) => .tuple #[x_.1, .bool r.2.1, .int .i64 r.2.2]) (fs := fun r x_ => [.od 23 x_.1 r.1 x_.2]) Try.func10 rfl Try.ntmps10 rfl (((SH.start hA).start_rd rfl hp0).start_rd rfl hp1) rfl ?_ hr
  unfold F_impl_NormalFormsOf
  refine J_seq ?_
  refine J_region ?_
  refine JL_st (wants_none rfl) rfl (st_box' rfl (fun w hh => (hh.cv 1 rfl))) (fun b1 => ?_)
  refine JL_q (wants_none rfl) rfl (ex_assign rfl) ?_
  refine JL_q (wants_none rfl) rfl (ex_assign rfl) ?_
  refine JL_q (wants_none rfl) rfl (ex_assign rfl) ?_
  refine JL_nil ?_
  refine N_then ?_
  refine J_seq ?_
  refine J_region ?_
  refine JL_q (wants_none rfl) rfl (ex_load_bx 0 ti_28 rfl rfl rfl) ?_
  refine JL_q (wants_none rfl) rfl (ex_move rfl) ?_
  refine JL_q (wants_none rfl) rfl (ex_move rfl) ?_
  refine JL_bnd fun r2 hr3 => ?_
  refine JL_call (wants_none rfl) rfl Try.call41 rfl (Ca_self (fun _ => rfl) fun w hh => c_impl_ReachWords _ w (fun _ hk => hk.elim) _ _ (hh.rd0 2 rfl) _ _ (hh.rd0 1 rfl) _ _ hr3) (fun x4 => ?_)
  obtain ⟨x4_0, x4_1⟩ := x4
  refine JL_q (wants_none rfl) rfl (ex_move rfl) ?_
  refine JL_q (wants_none rfl) rfl (ex_extract rfl rfl) ?_
  refine JL_q (wants_none rfl) rfl (ex_extract rfl rfl) ?_
  refine JL_q (wants_none rfl) rfl (ex_extract rfl rfl) ?_
  refine JL_q (wants_none rfl) rfl (ex_assign rfl) ?_
  refine JL_q (wants_none rfl) rfl (ex_assign rfl) ?_
  refine JL_q (wants_none rfl) rfl (ex_assign rfl) ?_
  refine JL_nil ?_
  refine N_then ?_
  refine J_seq ?_
  refine J_seq ?_
  refine J_region ?_
  refine JL_q (wants_none rfl) rfl (ex_move rfl) ?_
  refine JL_q (wants_none rfl) rfl (ex_neq rfl rfl) ?_
  refine JL_nil ?_
  refine N_then ?_
  refine J_if rfl (fun h5 => ?_) (fun h5 => ?_)
  · refine J_seq ?_
    refine J_region ?_
    refine JL_q (wants_none rfl) rfl (ex_move rfl) ?_
    refine JL_q (wants_none rfl) rfl (ex_assign rfl) ?_
    refine JL_q (wants_none rfl) rfl (ex_assign rfl) ?_
    refine JL_q (wants_none rfl) rfl (ex_assign rfl) ?_
    refine JL_nil ?_
    refine N_then ?_
    refine J_ret ?_
    refine N_then_ret ?_
    refine N_ctx (fun w hh => SH.od_nil (α := (List Int)) 23 hh) ?_
    exact N_ret3 rfl (rv_tmp rfl) (rv_tmp rfl) (rv_tmp rfl) (fun w hh => ⟨((.slice none 0 0 : Value), ([] : List Nat)), rfl, hh.sel [0] rfl⟩)
  · refine J_skip ?_
    refine N_then ?_
    refine J_seq ?_
    refine J_region ?_
    refine JL_q (wants_none rfl) rfl (ex_move rfl) ?_
    refine JL_q (wants_none rfl) rfl (ex_makeFunc rfl) ?_
    refine JL_bnd fun z6 hz7 => ?_
    refine JL_del_od 0 rc_slices_DeleteFunc_SSint64_Sint64 rc_slices_DeleteFunc_SSint64_Sint64_pure rd_uq_ints rfl rfl (wants_none rfl) rfl Try.call42 rfl rfl (fun ys_ w hh => (Clo.mk (caps := [.pointer (some ⟨b1, 0, none⟩)]) Try.call43 (fun w_ hb_ v_ x_ r_ hrd_ hr_ => c_impl_NormalFormsOf_1 nowhere w_ (fun _ hk => hk.elim) v_ x_ hrd_ _ _ ((hh.bx_pa1 1 rfl (hh.rd0 3 rfl) rfl rfl).later hb_) _ hr_))) hz7 (fun v8 => ?_)
    refine JL_q (wants_none rfl) rfl (ex_move rfl) ?_
    refine JL_q (wants_none rfl) rfl (ex_assign rfl) ?_
    refine JL_q (wants_none rfl) rfl (ex_assign rfl) ?_
    refine JL_q (wants_none rfl) rfl (ex_assign rfl) ?_
    refine JL_nil ?_
    refine N_then ?_
    refine J_ret ?_
    exact N_ret3 rfl (rv_tmp rfl) (rv_tmp rfl) (rv_tmp rfl) (fun w hh => ⟨(v8, x4_1), rfl, hh.sel [0] rfl⟩)

end Go.Proofs.Ytneglngdbcefgaa
