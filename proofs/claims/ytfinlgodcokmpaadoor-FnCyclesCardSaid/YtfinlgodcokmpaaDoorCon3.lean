/-
  Each function of the program computes what its plain function says: printed by program. No condition.
-/
import Derived.Test.YtfinlgodcokmpaaDoorFn
import Derived.Test.YtfinlgodcokmpaaDoorInf
import Derived.Test.YtfinlgodcokmpaaDoorCon2
namespace Go.Proofs.YtfinlgodcokmpaaDoor
open Go Go.Tc Go.Fn
set_option linter.unusedVariables false

set_option maxHeartbeats 40000000 in
theorem c_impl_runner_step (w : World) (b0_ : Nat) (p0 : Grunner) (v0_2 : Value) (v0_4 : Value) (v0_5 : Value) (B_ : List Nat) (hB_ : Ctx.owns [.bx b0_ 79 [.int .i64 p0.m_Symbols, .int .i64 p0.m_States, v0_2, .int .i64 p0.state, v0_4, v0_5], .ow 2 v0_4 p0.left, .ow 2 v0_5 p0.right] = B_) (hn_ : PHanded w [.bx b0_ 79 [.int .i64 p0.m_Symbols, .int .i64 p0.m_States, v0_2, .int .i64 p0.state, v0_4, v0_5], .ow 2 v0_4 p0.left, .ow 2 v0_5 p0.right]) (hp0_2 : Rd (fun k => k ∈ B_) w v0_2 p0.m_Rules) (r : (Bool) × (Int × (List Int) × (List Int))) (hr : F_impl_runner_step p0 = some r) :
    PtrCon Tryd.prog 37 [.pointer (some ⟨b0_, 0, none⟩)] w B_ (fun x_ : Value × Value => .bool r.1) (fun x_ => [.bx b0_ 79 [.int .i64 p0.m_Symbols, .int .i64 p0.m_States, v0_2, .int .i64 r.2.1, x_.1, x_.2], .ow 2 x_.1 r.2.2.1, .ow 2 x_.2 r.2.2.2]) := by
  refine PtrCon_of (v := fun (r : (Bool) × (Int × (List Int) × (List Int))) (x_ : Value × Value) => .bool r.1) (fs := fun r x_ => [.bx b0_ 79 [.int .i64 p0.m_Symbols, .int .i64 p0.m_States, v0_2, .int .i64 r.2.1, x_.1, x_.2], .ow 2 x_.1 r.2.2.1, .ow 2 x_.2 r.2.2.2]) Tryd.func37 rfl Tryd.ntmps37 rfl (show SH nowhere (bare w) w [.rd v0_2 p0.m_Rules, .bx b0_ 79 [.int .i64 p0.m_Symbols, .int .i64 p0.m_States, v0_2, .int .i64 p0.state, v0_4, v0_5], .ow 2 v0_4 p0.left, .ow 2 v0_5 p0.right, .tkn (.int .i64 0) (0 : Int) (restL w B_), rest w B_] from ((SH.begin hB_ hn_).cons_apart hB_ hp0_2)) rfl ?_ hr
  unfold F_impl_runner_step
  refine J_seq ?_
  refine J_region ?_
  refine JL_q (wants_none rfl) rfl (ex_assign rfl) ?_
  refine JL_nil ?_
  refine N_then ?_
  refine J_seq ?_
  refine J_region ?_
  refine JL_q (wants_none rfl) rfl (ex_move rfl) ?_
  refine JL_bnd fun r1 hr2 => ?_
  refine JL_call (wants_none rfl) rfl Tryd.call42 rfl (Ca_of0 fun w hh => c_impl_runner_rule _ w (fun _ hk => hk.elim) _ _ (hh.bx_pa 1 rfl (Grunner.rdmk (Rd.mk_int _ _ _) (Rd.mk_int _ _ _) (hh.rd0 0 rfl) (Rd.mk_int _ _ _) (hh.ow0 2 rfl) (hh.ow0 3 rfl)) rfl) _ hr2) (fun _ => ?_)
  refine JL_st (wants_none rfl) rfl (st_alloc zi_82 rfl) (fun b3 => ?_)
  refine JL_sk (wants_none rfl) (sk_store_bx' 0 ti_82 rfl rfl (fun w hh => (cv_aggs ⟨cv_int, cv_int, cv_int, trivial⟩)) rfl rfl rfl rfl) ?_
  refine JL_nil ?_
  refine N_then ?_
  refine J_seq ?_
  refine J_region ?_
  refine JL_q (wants_none rfl) rfl (ex_move rfl) ?_
  refine JL_q (wants_none rfl) rfl (ex_move rfl) ?_
  refine JL_q (wants_none rfl) rfl (ex_nilCheck rfl) ?_
  refine JL_q (wants_none rfl) rfl (ex_fieldAddr fi_79_3 rfl rfl) ?_
  refine JL_q (wants_none rfl) rfl (ex_load_bx 2 ti_28 rfl rfl rfl) ?_
  refine JL_inline (wants_none rfl) rfl Tryd.call53 rfl Tryd.func53 rfl Tryd.ntmps53 rfl rfl (fun K_ hK4 => ?_)
  refine J_seq ?_
  refine J_region ?_
  refine JL_q (wants_none rfl) rfl (ex_assign rfl) ?_
  refine JL_nil ?_
  refine N_then ?_
  refine J_seq ?_
  refine J_region ?_
  refine JL_q (wants_none rfl) rfl (ex_move rfl) ?_
  refine JL_q (wants_none rfl) rfl (ex_move rfl) ?_
  refine JL_q (wants_none rfl) rfl (ex_len_ow 4 Tryd.underlying28 rfl rfl) ?_
  refine JL_q (wants_none rfl) rfl (ex_sub rfl rfl) ?_
  refine JL_q (wants_none rfl) rfl (ex_max rfl rfl) ?_
  refine JL_bnd fun z5 hz6 => ?_
  refine JL_st (wants_none rfl) rfl (st_slice_own 4 Tryd.underlying28 ti_2 rfl rfl rfl hz6) (fun v7 => ?_)
  refine JL_q (wants_none rfl) rfl (ex_assign rfl) ?_
  refine JL_nil ?_
  refine N_then ?_
  refine J_ret ?_
  refine N_inl1 hK4 rfl (rv_tmp rfl) ?_
  refine JL_q (wants_none rfl) rfl (ex_nilCheck rfl) ?_
  refine JL_q (wants_none rfl) rfl (ex_fieldAddr fi_79_3 rfl rfl) ?_
  refine JL_sk (wants_none rfl) (sk_store_bx' 2 ti_28 rfl rfl (fun w hh => (hh.cv_ow 4 rfl)) rfl rfl rfl rfl) ?_
  refine JL_nil ?_
  refine N_then ?_
  refine J_seq ?_
  refine J_cut' (S' := (List Int) × (List Int)) (G' := Value × Value) (fun s8 g9 => [(0, .pointer (some ⟨b0_, 0, none⟩)), (3, .pointer (some ⟨b3, 0, none⟩))]) (fun s8 g9 => [rest w B_, .rd v0_2 p0.m_Rules, .ow 2 g9.1 s8.1, .ow 2 g9.2 s8.2, .bx b0_ 79 [.int .i64 p0.m_Symbols, .int .i64 p0.m_States, v0_2, .int .i64 p0.state, g9.1, g9.2], .bx b3 82 [.int .i64 r1.Write, .int .i64 r1.Move, .int .i64 r1.Next], .tkn (.int .i64 0) (0 : Int) (restL w B_)]) ?_ (fun s8 g9 => ?_)
  · refine J_seq ?_
    refine J_region ?_
    refine JL_q (wants_none rfl) rfl (ex_fieldAddr fi_82_1 rfl rfl) ?_
    refine JL_q (wants_none rfl) rfl (ex_load_bx 0 ti_2 rfl rfl rfl) ?_
    refine JL_q (wants_none rfl) rfl (ex_gtr rfl rfl) ?_
    refine JL_nil ?_
    refine N_then ?_
    refine J_if rfl (fun h10 => ?_) (fun h10 => ?_)
    · refine J_draw [2, 3, 4] (by kernel_rfl) ?_
      refine JP_take (i := 0) [0, 1, 5, 6] [2, 3, 4] rfl (by kernel_rfl) (by kernel_rfl) (by kernel_rfl) rfl rfl (wants_none rfl) rfl (ex_move rfl) ?_
      refine JP_take (i := 1) [0, 1, 5, 6] [2, 3, 4] rfl (by kernel_rfl) (by kernel_rfl) (by kernel_rfl) rfl rfl (wants_none rfl) rfl (ex_move rfl) ?_
      refine JP_take (i := 2) [0, 1, 5, 6] [2, 3, 4] rfl (by kernel_rfl) (by kernel_rfl) (by kernel_rfl) rfl rfl (wants_none rfl) rfl (ex_nilCheck rfl) ?_
      refine JP_take (i := 3) [0, 1, 5, 6] [2, 3, 4] rfl (by kernel_rfl) (by kernel_rfl) (by kernel_rfl) rfl rfl (wants_none rfl) rfl (ex_fieldAddr fi_79_2 rfl rfl) ?_
      refine JP_take (i := 5) [0, 1, 5, 6] [2, 3, 4] rfl (by kernel_rfl) (by kernel_rfl) (by kernel_rfl) rfl rfl (wants_none rfl) rfl (ex_fieldAddr fi_82_0 rfl rfl) ?_
      refine JP_take (i := 6) [0, 1, 5, 6] [2, 3, 4] rfl (by kernel_rfl) (by kernel_rfl) (by kernel_rfl) rfl rfl (wants_none rfl) rfl (ex_load_bx 0 ti_2 rfl rfl rfl) ?_
      refine JP_go [0, 1, 5, 6] [2, 3, 4] rfl rfl rfl (fun w12 h1_13 hp11 => ?_)
      refine JD_one (i := 4) (by kernel_rfl) ?_
      refine JO_q rfl (wants_none rfl) rfl (ex_load_bx 2 ti_28 rfl rfl rfl) ?_
      refine JD_one (i := 7) (by kernel_rfl) ?_
      refine JO_inline h1_13 [2, 3, 4] [0] rfl rfl rfl rfl (wants_none rfl) rfl Tryd.call54 rfl Tryd.func54 rfl Tryd.ntmps54 rfl rfl (fun C15 K_ hK14 => ?_)
      refine J_seq ?_
      refine J_region ?_
      refine JL_q (wants_none rfl) rfl (ex_assign rfl) ?_
      refine JL_nil ?_
      refine N_then ?_
      refine J_seq ?_
      refine J_seq ?_
      refine J_region ?_
      refine JL_q (wants_none rfl) rfl (ex_move rfl) ?_
      refine JL_q (wants_none rfl) rfl (ex_eql rfl rfl) ?_
      refine JL_q (wants_none rfl) rfl (ex_move rfl) ?_
      refine JL_cond (fun h16 => ?_) (fun h16 => ?_)
      · refine JL_q (wants_some rfl rfl rfl h16) rfl (ex_move rfl) ?_
        refine JL_q (wants_some rfl rfl rfl h16) rfl (ex_len_ow 4 Tryd.underlying28 rfl rfl) ?_
        refine JL_q (wants_some rfl rfl rfl h16) rfl (ex_eql rfl rfl) ?_
        refine JL_q (wants_none rfl) rfl (ex_pick_true rfl h16 rfl) ?_
        refine JL_nil ?_
        refine N_then ?_
        refine J_if rfl (fun h17 => ?_) (fun h17 => ?_)
        · refine J_seq ?_
          refine J_region ?_
          refine JL_q (wants_none rfl) rfl (ex_move rfl) ?_
          refine JL_q (wants_none rfl) rfl (ex_assign rfl) ?_
          refine JL_nil ?_
          refine N_then ?_
          refine J_ret ?_
          refine N_then_ret ?_
          refine N_inlD1 hK14 rfl (rv_tmp rfl) 0 [1] rfl rfl ?_
          refine JD_take (i := 8) hp11 rfl (by kernel_rfl) (by kernel_rfl) (by kernel_rfl) (wants_none rfl) rfl (ex_nilCheck rfl) ?_
          refine JD_take (i := 9) hp11 rfl (by kernel_rfl) (by kernel_rfl) (by kernel_rfl) (wants_none rfl) rfl (ex_fieldAddr fi_79_2 rfl rfl) ?_
          refine JD_one (i := 10) (by kernel_rfl) ?_
          refine JO_sk rfl (wants_none rfl) (sk_store_bx' 3 ti_28 rfl rfl (fun w hh => (hh.cv_ow 4 rfl)) rfl rfl rfl rfl) (sub_bx 0 rfl) ?_
          refine JD_done (by kernel_rfl) ?_
          exact N_meet' (v0_4, v7) ⟨rfl, rfl, trivial⟩ [7, 2, 4, 5, 3, 1, 6] rfl rfl
        · refine J_skip ?_
          refine N_then ?_
          refine J_seq ?_
          refine J_region ?_
          refine JL_q (wants_none rfl) rfl (ex_move rfl) ?_
          refine JL_q (wants_none rfl) rfl (ex_move rfl) ?_
          refine JL_st (wants_none rfl) rfl (st_buildSlice (vs := [.int .i64 r1.Write]) ([r1.Write] : List Int) Tryd.underlying28 ti_2 zi_2 rfl rfl rfl (fun w hh => ⟨(Rd.mk_int _ _ _), trivial⟩)) (fun b18 => ?_)
          refine JL_bnd fun z19 hz20 => ?_
          refine JL_st (wants_none rfl) rfl (st_append 5 Tryd.underlying28 ti_2 zi_2 rfl bi_2 rfl rfl rfl rfl (fun w hh => hh.src_ow 0 rfl) hz20) (fun v21 => ?_)
          refine JL_q (wants_none rfl) rfl (ex_assign rfl) ?_
          refine JL_nil ?_
          refine N_then ?_
          refine J_ret ?_
          refine N_inlD1 hK14 rfl (rv_tmp rfl) 1 [2] rfl rfl ?_
          refine JD_take (i := 8) hp11 rfl (by kernel_rfl) (by kernel_rfl) (by kernel_rfl) (wants_none rfl) rfl (ex_nilCheck rfl) ?_
          refine JD_take (i := 9) hp11 rfl (by kernel_rfl) (by kernel_rfl) (by kernel_rfl) (wants_none rfl) rfl (ex_fieldAddr fi_79_2 rfl rfl) ?_
          refine JD_one (i := 10) (by kernel_rfl) ?_
          refine JO_sk rfl (wants_none rfl) (sk_store_bx' 4 ti_28 rfl rfl (fun w hh => (hh.cv_ow 5 rfl)) rfl rfl rfl rfl) (sub_bx 0 rfl) ?_
          refine JD_done (by kernel_rfl) ?_
          exact N_meet' (v21, v7) ⟨rfl, rfl, trivial⟩ [8, 3, 5, 6, 4, 2, 7] rfl rfl
      · refine JL_passed rfl rfl rfl h16 ?_
        refine JL_passed rfl rfl rfl h16 ?_
        refine JL_passed rfl rfl rfl h16 ?_
        refine JL_q (wants_none rfl) rfl (ex_pick_false rfl h16 rfl) ?_
        refine JL_nil ?_
        refine N_then ?_
        refine J_if_false rfl rfl ?_
        refine J_skip ?_
        refine N_then ?_
        refine J_seq ?_
        refine J_region ?_
        refine JL_q (wants_none rfl) rfl (ex_move rfl) ?_
        refine JL_q (wants_none rfl) rfl (ex_move rfl) ?_
        refine JL_st (wants_none rfl) rfl (st_buildSlice (vs := [.int .i64 r1.Write]) ([r1.Write] : List Int) Tryd.underlying28 ti_2 zi_2 rfl rfl rfl (fun w hh => ⟨(Rd.mk_int _ _ _), trivial⟩)) (fun b22 => ?_)
        refine JL_bnd fun z23 hz24 => ?_
        refine JL_st (wants_none rfl) rfl (st_append 5 Tryd.underlying28 ti_2 zi_2 rfl bi_2 rfl rfl rfl rfl (fun w hh => hh.src_ow 0 rfl) hz24) (fun v25 => ?_)
        refine JL_q (wants_none rfl) rfl (ex_assign rfl) ?_
        refine JL_nil ?_
        refine N_then ?_
        refine J_ret ?_
        refine N_inlD1 hK14 rfl (rv_tmp rfl) 1 [2] rfl rfl ?_
        refine JD_take (i := 8) hp11 rfl (by kernel_rfl) (by kernel_rfl) (by kernel_rfl) (wants_none rfl) rfl (ex_nilCheck rfl) ?_
        refine JD_take (i := 9) hp11 rfl (by kernel_rfl) (by kernel_rfl) (by kernel_rfl) (wants_none rfl) rfl (ex_fieldAddr fi_79_2 rfl rfl) ?_
        refine JD_one (i := 10) (by kernel_rfl) ?_
        refine JO_sk rfl (wants_none rfl) (sk_store_bx' 4 ti_28 rfl rfl (fun w hh => (hh.cv_ow 5 rfl)) rfl rfl rfl rfl) (sub_bx 0 rfl) ?_
        refine JD_done (by kernel_rfl) ?_
        exact N_meet' (v25, v7) ⟨rfl, rfl, trivial⟩ [8, 3, 5, 6, 4, 2, 7] rfl rfl
    · refine J_seq ?_
      refine J_cut' (S' := (List Int)) (G' := Value) (fun s26 g27 => [(0, .pointer (some ⟨b0_, 0, none⟩)), (3, .pointer (some ⟨b3, 0, none⟩))]) (fun s26 g27 => [rest w B_, .rd v0_2 p0.m_Rules, .ow 2 v0_4 p0.left, .ow 2 g27 s26, .bx b0_ 79 [.int .i64 p0.m_Symbols, .int .i64 p0.m_States, v0_2, .int .i64 p0.state, v0_4, g27], .bx b3 82 [.int .i64 r1.Write, .int .i64 r1.Move, .int .i64 r1.Next], .tkn (.int .i64 0) (0 : Int) (restL w B_)]) ?_ (fun s26 g27 => ?_)
      · refine J_draw [2, 3, 4] (by kernel_rfl) ?_
        refine JP_take (i := 0) [0, 1, 5, 6] [2, 3, 4] rfl (by kernel_rfl) (by kernel_rfl) (by kernel_rfl) rfl rfl (wants_none rfl) rfl (ex_move rfl) ?_
        refine JP_take (i := 1) [0, 1, 5, 6] [2, 3, 4] rfl (by kernel_rfl) (by kernel_rfl) (by kernel_rfl) rfl rfl (wants_none rfl) rfl (ex_move rfl) ?_
        refine JP_take (i := 2) [0, 1, 5, 6] [2, 3, 4] rfl (by kernel_rfl) (by kernel_rfl) (by kernel_rfl) rfl rfl (wants_none rfl) rfl (ex_nilCheck rfl) ?_
        refine JP_take (i := 3) [0, 1, 5, 6] [2, 3, 4] rfl (by kernel_rfl) (by kernel_rfl) (by kernel_rfl) rfl rfl (wants_none rfl) rfl (ex_fieldAddr fi_79_3 rfl rfl) ?_
        refine JP_take (i := 5) [0, 1, 5, 6] [2, 3, 4] rfl (by kernel_rfl) (by kernel_rfl) (by kernel_rfl) rfl rfl (wants_none rfl) rfl (ex_fieldAddr fi_82_0 rfl rfl) ?_
        refine JP_take (i := 6) [0, 1, 5, 6] [2, 3, 4] rfl (by kernel_rfl) (by kernel_rfl) (by kernel_rfl) rfl rfl (wants_none rfl) rfl (ex_load_bx 0 ti_2 rfl rfl rfl) ?_
        refine JP_take (i := 8) [0, 1, 5, 6] [2, 3, 4] rfl (by kernel_rfl) (by kernel_rfl) (by kernel_rfl) rfl rfl (wants_none rfl) rfl (ex_move rfl) ?_
        refine JP_take (i := 9) [0, 1, 5, 6] [2, 3, 4] rfl (by kernel_rfl) (by kernel_rfl) (by kernel_rfl) rfl rfl (wants_none rfl) rfl (ex_nilCheck rfl) ?_
        refine JP_take (i := 10) [0, 1, 5, 6] [2, 3, 4] rfl (by kernel_rfl) (by kernel_rfl) (by kernel_rfl) rfl rfl (wants_none rfl) rfl (ex_fieldAddr fi_79_2 rfl rfl) ?_
        refine JP_go [0, 1, 5, 6] [2, 3, 4] rfl rfl rfl (fun w29 h1_30 hp28 => ?_)
        refine JD_two (i := 4) (j := 11) (by kernel_rfl) ?_ ?_
        · refine JO_q rfl (wants_none rfl) rfl (ex_load_bx 2 ti_28 rfl rfl rfl) ?_
          refine JD_two (i := 7) (j := 11) (by kernel_rfl) ?_ ?_
          · refine JO_inline h1_30 [2, 3, 4] [0] rfl rfl rfl rfl (wants_none rfl) rfl Tryd.call54 rfl Tryd.func54 rfl Tryd.ntmps54 rfl rfl (fun C32 K_ hK31 => ?_)
            refine J_seq ?_
            refine J_region ?_
            refine JL_q (wants_none rfl) rfl (ex_assign rfl) ?_
            refine JL_nil ?_
            refine N_then ?_
            refine J_seq ?_
            refine J_seq ?_
            refine J_region ?_
            refine JL_q (wants_none rfl) rfl (ex_move rfl) ?_
            refine JL_q (wants_none rfl) rfl (ex_eql rfl rfl) ?_
            refine JL_q (wants_none rfl) rfl (ex_move rfl) ?_
            refine JL_cond (fun h33 => ?_) (fun h33 => ?_)
            · refine JL_q (wants_some rfl rfl rfl h33) rfl (ex_move rfl) ?_
              refine JL_q (wants_some rfl rfl rfl h33) rfl (ex_len_ow 5 Tryd.underlying28 rfl rfl) ?_
              refine JL_q (wants_some rfl rfl rfl h33) rfl (ex_eql rfl rfl) ?_
              refine JL_q (wants_none rfl) rfl (ex_pick_true rfl h33 rfl) ?_
              refine JL_nil ?_
              refine N_then ?_
              refine J_if rfl (fun h34 => ?_) (fun h34 => ?_)
              · refine J_seq ?_
                refine J_region ?_
                refine JL_q (wants_none rfl) rfl (ex_move rfl) ?_
                refine JL_q (wants_none rfl) rfl (ex_assign rfl) ?_
                refine JL_nil ?_
                refine N_then ?_
                refine J_ret ?_
                refine N_then_ret ?_
                refine N_inlD1 hK31 rfl (rv_tmp rfl) 0 [1] rfl rfl ?_
                refine JD_one (i := 11) (by kernel_rfl) ?_
                refine JO_q rfl (wants_none rfl) rfl (ex_load_bx 3 ti_28 rfl rfl rfl) ?_
                refine JD_bnd fun r35 hr36 => ?_
                refine JD_one (i := 12) (by kernel_rfl) ?_
                refine JO_call rfl (wants_none rfl) rfl Tryd.call55 rfl (Ca_of0 fun w hh => c_impl_nearest _ w (fun _ hk => hk.elim) _ _ (hh.ow0 4 rfl) _ hr36) (fun _ => ?_)
                refine JD_one (i := 13) (by kernel_rfl) ?_
                refine JO_inline h1_30 [2, 3, 4] [0] rfl rfl rfl rfl (wants_none rfl) rfl Tryd.call54 rfl Tryd.func54 rfl Tryd.ntmps54 rfl rfl (fun C38 K_ hK37 => ?_)
                refine J_seq ?_
                refine J_region ?_
                refine JL_q (wants_none rfl) rfl (ex_assign rfl) ?_
                refine JL_nil ?_
                refine N_then ?_
                refine J_seq ?_
                refine J_seq ?_
                refine J_region ?_
                refine JL_q (wants_none rfl) rfl (ex_move rfl) ?_
                refine JL_q (wants_none rfl) rfl (ex_eql rfl rfl) ?_
                refine JL_q (wants_none rfl) rfl (ex_move rfl) ?_
                refine JL_cond (fun h39 => ?_) (fun h39 => ?_)
                · refine JL_q (wants_some rfl rfl rfl h39) rfl (ex_move rfl) ?_
                  refine JL_q (wants_some rfl rfl rfl h39) rfl (ex_len_ow 6 Tryd.underlying28 rfl rfl) ?_
                  refine JL_q (wants_some rfl rfl rfl h39) rfl (ex_eql rfl rfl) ?_
                  refine JL_q (wants_none rfl) rfl (ex_pick_true rfl h39 rfl) ?_
                  refine JL_nil ?_
                  refine N_then ?_
                  refine J_if_true rfl h34 ?_
                  refine J_seq ?_
                  refine J_region ?_
                  refine JL_q (wants_none rfl) rfl (ex_move rfl) ?_
                  refine JL_q (wants_none rfl) rfl (ex_assign rfl) ?_
                  refine JL_nil ?_
                  refine N_then ?_
                  refine J_ret ?_
                  refine N_then_ret ?_
                  refine N_inlD1 hK37 rfl (rv_tmp rfl) 0 [2] rfl rfl ?_
                  refine JD_take (i := 14) hp28 rfl (by kernel_rfl) (by kernel_rfl) (by kernel_rfl) (wants_none rfl) rfl (ex_nilCheck rfl) ?_
                  refine JD_take (i := 15) hp28 rfl (by kernel_rfl) (by kernel_rfl) (by kernel_rfl) (wants_none rfl) rfl (ex_fieldAddr fi_79_3 rfl rfl) ?_
                  refine JD_one (i := 16) (by kernel_rfl) ?_
                  refine JO_sk rfl (wants_none rfl) (sk_store_bx' 4 ti_28 rfl rfl (fun w hh => (hh.cv_ow 6 rfl)) rfl rfl rfl rfl) (sub_bx 0 rfl) ?_
                  refine JD_done (by kernel_rfl) ?_
                  exact N_meet' v7 ⟨rfl, rfl, trivial⟩ [8, 3, 5, 6, 4, 2, 7] rfl rfl
                · refine JL_passed rfl rfl rfl h39 ?_
                  refine JL_passed rfl rfl rfl h39 ?_
                  refine JL_passed rfl rfl rfl h39 ?_
                  refine JL_q (wants_none rfl) rfl (ex_pick_false rfl h39 rfl) ?_
                  refine JL_nil ?_
                  refine N_then ?_
                  refine J_if_false rfl rfl ?_
                  refine J_skip ?_
                  refine N_then ?_
                  refine J_seq ?_
                  refine J_region ?_
                  refine JL_q (wants_none rfl) rfl (ex_move rfl) ?_
                  refine JL_q (wants_none rfl) rfl (ex_move rfl) ?_
                  refine JL_st (wants_none rfl) rfl (st_buildSlice (vs := [.int .i64 r35]) ([r35] : List Int) Tryd.underlying28 ti_2 zi_2 rfl rfl rfl (fun w hh => ⟨(Rd.mk_int _ _ _), trivial⟩)) (fun b40 => ?_)
                  refine JL_bnd fun z41 hz42 => ?_
                  refine JL_st (wants_none rfl) rfl (st_append 7 Tryd.underlying28 ti_2 zi_2 rfl bi_2 rfl rfl rfl rfl (fun w hh => hh.src_ow 0 rfl) hz42) (fun v43 => ?_)
                  refine JL_q (wants_none rfl) rfl (ex_assign rfl) ?_
                  refine JL_nil ?_
                  refine N_then ?_
                  refine J_ret ?_
                  refine N_inlD1 hK37 rfl (rv_tmp rfl) 1 [3] rfl rfl ?_
                  refine JD_take (i := 14) hp28 rfl (by kernel_rfl) (by kernel_rfl) (by kernel_rfl) (wants_none rfl) rfl (ex_nilCheck rfl) ?_
                  refine JD_take (i := 15) hp28 rfl (by kernel_rfl) (by kernel_rfl) (by kernel_rfl) (wants_none rfl) rfl (ex_fieldAddr fi_79_3 rfl rfl) ?_
                  refine JD_one (i := 16) (by kernel_rfl) ?_
                  refine JO_sk rfl (wants_none rfl) (sk_store_bx' 5 ti_28 rfl rfl (fun w hh => (hh.cv_ow 7 rfl)) rfl rfl rfl rfl) (sub_bx 0 rfl) ?_
                  refine JD_done (by kernel_rfl) ?_
                  exact N_meet' v43 ⟨rfl, rfl, trivial⟩ [9, 4, 6, 7, 5, 3, 8] rfl rfl
              · refine J_skip ?_
                refine N_then ?_
                refine J_seq ?_
                refine J_region ?_
                refine JL_q (wants_none rfl) rfl (ex_move rfl) ?_
                refine JL_q (wants_none rfl) rfl (ex_move rfl) ?_
                refine JL_st (wants_none rfl) rfl (st_buildSlice (vs := [.int .i64 r1.Write]) ([r1.Write] : List Int) Tryd.underlying28 ti_2 zi_2 rfl rfl rfl (fun w hh => ⟨(Rd.mk_int _ _ _), trivial⟩)) (fun b44 => ?_)
                refine JL_bnd fun z45 hz46 => ?_
                refine JL_st (wants_none rfl) rfl (st_append 6 Tryd.underlying28 ti_2 zi_2 rfl bi_2 rfl rfl rfl rfl (fun w hh => hh.src_ow 0 rfl) hz46) (fun v47 => ?_)
                refine JL_q (wants_none rfl) rfl (ex_assign rfl) ?_
                refine JL_nil ?_
                refine N_then ?_
                refine J_ret ?_
                refine N_inlD1 hK31 rfl (rv_tmp rfl) 1 [2] rfl rfl ?_
                refine JD_one (i := 11) (by kernel_rfl) ?_
                refine JO_q rfl (wants_none rfl) rfl (ex_load_bx 4 ti_28 rfl rfl rfl) ?_
                refine JD_bnd fun r48 hr49 => ?_
                refine JD_one (i := 12) (by kernel_rfl) ?_
                refine JO_call rfl (wants_none rfl) rfl Tryd.call55 rfl (Ca_of0 fun w hh => c_impl_nearest _ w (fun _ hk => hk.elim) _ _ (hh.ow0 5 rfl) _ hr49) (fun _ => ?_)
                refine JD_one (i := 13) (by kernel_rfl) ?_
                refine JO_inline h1_30 [2, 3, 4] [0] rfl rfl rfl rfl (wants_none rfl) rfl Tryd.call54 rfl Tryd.func54 rfl Tryd.ntmps54 rfl rfl (fun C51 K_ hK50 => ?_)
                refine J_seq ?_
                refine J_region ?_
                refine JL_q (wants_none rfl) rfl (ex_assign rfl) ?_
                refine JL_nil ?_
                refine N_then ?_
                refine J_seq ?_
                refine J_seq ?_
                refine J_region ?_
                refine JL_q (wants_none rfl) rfl (ex_move rfl) ?_
                refine JL_q (wants_none rfl) rfl (ex_eql rfl rfl) ?_
                refine JL_q (wants_none rfl) rfl (ex_move rfl) ?_
                refine JL_cond (fun h52 => ?_) (fun h52 => ?_)
                · refine JL_q (wants_some rfl rfl rfl h52) rfl (ex_move rfl) ?_
                  refine JL_q (wants_some rfl rfl rfl h52) rfl (ex_len_ow 7 Tryd.underlying28 rfl rfl) ?_
                  refine JL_q (wants_some rfl rfl rfl h52) rfl (ex_eql rfl rfl) ?_
                  refine JL_q (wants_none rfl) rfl (ex_pick_true rfl h52 rfl) ?_
                  refine JL_nil ?_
                  refine N_then ?_
                  refine J_if rfl (fun h53 => ?_) (fun h53 => ?_)
                  · refine J_seq ?_
                    refine J_region ?_
                    refine JL_q (wants_none rfl) rfl (ex_move rfl) ?_
                    refine JL_q (wants_none rfl) rfl (ex_assign rfl) ?_
                    refine JL_nil ?_
                    refine N_then ?_
                    refine J_ret ?_
                    refine N_then_ret ?_
                    refine N_inlD1 hK50 rfl (rv_tmp rfl) 0 [3] rfl rfl ?_
                    refine JD_take (i := 14) hp28 rfl (by kernel_rfl) (by kernel_rfl) (by kernel_rfl) (wants_none rfl) rfl (ex_nilCheck rfl) ?_
                    refine JD_take (i := 15) hp28 rfl (by kernel_rfl) (by kernel_rfl) (by kernel_rfl) (wants_none rfl) rfl (ex_fieldAddr fi_79_3 rfl rfl) ?_
                    refine JD_one (i := 16) (by kernel_rfl) ?_
                    refine JO_sk rfl (wants_none rfl) (sk_store_bx' 5 ti_28 rfl rfl (fun w hh => (hh.cv_ow 7 rfl)) rfl rfl rfl rfl) (sub_bx 0 rfl) ?_
                    refine JD_done (by kernel_rfl) ?_
                    exact N_meet' v47 ⟨rfl, rfl, trivial⟩ [9, 4, 6, 7, 5, 3, 8] rfl rfl
                  · refine J_skip ?_
                    refine N_then ?_
                    refine J_seq ?_
                    refine J_region ?_
                    refine JL_q (wants_none rfl) rfl (ex_move rfl) ?_
                    refine JL_q (wants_none rfl) rfl (ex_move rfl) ?_
                    refine JL_st (wants_none rfl) rfl (st_buildSlice (vs := [.int .i64 r48]) ([r48] : List Int) Tryd.underlying28 ti_2 zi_2 rfl rfl rfl (fun w hh => ⟨(Rd.mk_int _ _ _), trivial⟩)) (fun b54 => ?_)
                    refine JL_bnd fun z55 hz56 => ?_
                    refine JL_st (wants_none rfl) rfl (st_append 8 Tryd.underlying28 ti_2 zi_2 rfl bi_2 rfl rfl rfl rfl (fun w hh => hh.src_ow 0 rfl) hz56) (fun v57 => ?_)
                    refine JL_q (wants_none rfl) rfl (ex_assign rfl) ?_
                    refine JL_nil ?_
                    refine N_then ?_
                    refine J_ret ?_
                    refine N_inlD1 hK50 rfl (rv_tmp rfl) 1 [4] rfl rfl ?_
                    refine JD_take (i := 14) hp28 rfl (by kernel_rfl) (by kernel_rfl) (by kernel_rfl) (wants_none rfl) rfl (ex_nilCheck rfl) ?_
                    refine JD_take (i := 15) hp28 rfl (by kernel_rfl) (by kernel_rfl) (by kernel_rfl) (wants_none rfl) rfl (ex_fieldAddr fi_79_3 rfl rfl) ?_
                    refine JD_one (i := 16) (by kernel_rfl) ?_
                    refine JO_sk rfl (wants_none rfl) (sk_store_bx' 6 ti_28 rfl rfl (fun w hh => (hh.cv_ow 8 rfl)) rfl rfl rfl rfl) (sub_bx 0 rfl) ?_
                    refine JD_done (by kernel_rfl) ?_
                    exact N_meet' v57 ⟨rfl, rfl, trivial⟩ [10, 5, 7, 8, 6, 4, 9] rfl rfl
                · refine JL_passed rfl rfl rfl h52 ?_
                  refine JL_passed rfl rfl rfl h52 ?_
                  refine JL_passed rfl rfl rfl h52 ?_
                  refine JL_q (wants_none rfl) rfl (ex_pick_false rfl h52 rfl) ?_
                  refine JL_nil ?_
                  refine N_then ?_
                  refine J_if_false rfl rfl ?_
                  refine J_skip ?_
                  refine N_then ?_
                  refine J_seq ?_
                  refine J_region ?_
                  refine JL_q (wants_none rfl) rfl (ex_move rfl) ?_
                  refine JL_q (wants_none rfl) rfl (ex_move rfl) ?_
                  refine JL_st (wants_none rfl) rfl (st_buildSlice (vs := [.int .i64 r48]) ([r48] : List Int) Tryd.underlying28 ti_2 zi_2 rfl rfl rfl (fun w hh => ⟨(Rd.mk_int _ _ _), trivial⟩)) (fun b58 => ?_)
                  refine JL_bnd fun z59 hz60 => ?_
                  refine JL_st (wants_none rfl) rfl (st_append 8 Tryd.underlying28 ti_2 zi_2 rfl bi_2 rfl rfl rfl rfl (fun w hh => hh.src_ow 0 rfl) hz60) (fun v61 => ?_)
                  refine JL_q (wants_none rfl) rfl (ex_assign rfl) ?_
                  refine JL_nil ?_
                  refine N_then ?_
                  refine J_ret ?_
                  refine N_inlD1 hK50 rfl (rv_tmp rfl) 1 [4] rfl rfl ?_
                  refine JD_take (i := 14) hp28 rfl (by kernel_rfl) (by kernel_rfl) (by kernel_rfl) (wants_none rfl) rfl (ex_nilCheck rfl) ?_
                  refine JD_take (i := 15) hp28 rfl (by kernel_rfl) (by kernel_rfl) (by kernel_rfl) (wants_none rfl) rfl (ex_fieldAddr fi_79_3 rfl rfl) ?_
                  refine JD_one (i := 16) (by kernel_rfl) ?_
                  refine JO_sk rfl (wants_none rfl) (sk_store_bx' 6 ti_28 rfl rfl (fun w hh => (hh.cv_ow 8 rfl)) rfl rfl rfl rfl) (sub_bx 0 rfl) ?_
                  refine JD_done (by kernel_rfl) ?_
                  exact N_meet' v61 ⟨rfl, rfl, trivial⟩ [10, 5, 7, 8, 6, 4, 9] rfl rfl
            · refine JL_passed rfl rfl rfl h33 ?_
              refine JL_passed rfl rfl rfl h33 ?_
              refine JL_passed rfl rfl rfl h33 ?_
              refine JL_q (wants_none rfl) rfl (ex_pick_false rfl h33 rfl) ?_
              refine JL_nil ?_
              refine N_then ?_
              refine J_if_false rfl rfl ?_
              refine J_skip ?_
              refine N_then ?_
              refine J_seq ?_
              refine J_region ?_
              refine JL_q (wants_none rfl) rfl (ex_move rfl) ?_
              refine JL_q (wants_none rfl) rfl (ex_move rfl) ?_
              refine JL_st (wants_none rfl) rfl (st_buildSlice (vs := [.int .i64 r1.Write]) ([r1.Write] : List Int) Tryd.underlying28 ti_2 zi_2 rfl rfl rfl (fun w hh => ⟨(Rd.mk_int _ _ _), trivial⟩)) (fun b62 => ?_)
              refine JL_bnd fun z63 hz64 => ?_
              refine JL_st (wants_none rfl) rfl (st_append 6 Tryd.underlying28 ti_2 zi_2 rfl bi_2 rfl rfl rfl rfl (fun w hh => hh.src_ow 0 rfl) hz64) (fun v65 => ?_)
              refine JL_q (wants_none rfl) rfl (ex_assign rfl) ?_
              refine JL_nil ?_
              refine N_then ?_
              refine J_ret ?_
              refine N_inlD1 hK31 rfl (rv_tmp rfl) 1 [2] rfl rfl ?_
              refine JD_one (i := 11) (by kernel_rfl) ?_
              refine JO_q rfl (wants_none rfl) rfl (ex_load_bx 4 ti_28 rfl rfl rfl) ?_
              refine JD_bnd fun r66 hr67 => ?_
              refine JD_one (i := 12) (by kernel_rfl) ?_
              refine JO_call rfl (wants_none rfl) rfl Tryd.call55 rfl (Ca_of0 fun w hh => c_impl_nearest _ w (fun _ hk => hk.elim) _ _ (hh.ow0 5 rfl) _ hr67) (fun _ => ?_)
              refine JD_one (i := 13) (by kernel_rfl) ?_
              refine JO_inline h1_30 [2, 3, 4] [0] rfl rfl rfl rfl (wants_none rfl) rfl Tryd.call54 rfl Tryd.func54 rfl Tryd.ntmps54 rfl rfl (fun C69 K_ hK68 => ?_)
              refine J_seq ?_
              refine J_region ?_
              refine JL_q (wants_none rfl) rfl (ex_assign rfl) ?_
              refine JL_nil ?_
              refine N_then ?_
              refine J_seq ?_
              refine J_seq ?_
              refine J_region ?_
              refine JL_q (wants_none rfl) rfl (ex_move rfl) ?_
              refine JL_q (wants_none rfl) rfl (ex_eql rfl rfl) ?_
              refine JL_q (wants_none rfl) rfl (ex_move rfl) ?_
              refine JL_cond (fun h70 => ?_) (fun h70 => ?_)
              · refine JL_q (wants_some rfl rfl rfl h70) rfl (ex_move rfl) ?_
                refine JL_q (wants_some rfl rfl rfl h70) rfl (ex_len_ow 7 Tryd.underlying28 rfl rfl) ?_
                refine JL_q (wants_some rfl rfl rfl h70) rfl (ex_eql rfl rfl) ?_
                refine JL_q (wants_none rfl) rfl (ex_pick_true rfl h70 rfl) ?_
                refine JL_nil ?_
                refine N_then ?_
                refine J_if rfl (fun h71 => ?_) (fun h71 => ?_)
                · refine J_seq ?_
                  refine J_region ?_
                  refine JL_q (wants_none rfl) rfl (ex_move rfl) ?_
                  refine JL_q (wants_none rfl) rfl (ex_assign rfl) ?_
                  refine JL_nil ?_
                  refine N_then ?_
                  refine J_ret ?_
                  refine N_then_ret ?_
                  refine N_inlD1 hK68 rfl (rv_tmp rfl) 0 [3] rfl rfl ?_
                  refine JD_take (i := 14) hp28 rfl (by kernel_rfl) (by kernel_rfl) (by kernel_rfl) (wants_none rfl) rfl (ex_nilCheck rfl) ?_
                  refine JD_take (i := 15) hp28 rfl (by kernel_rfl) (by kernel_rfl) (by kernel_rfl) (wants_none rfl) rfl (ex_fieldAddr fi_79_3 rfl rfl) ?_
                  refine JD_one (i := 16) (by kernel_rfl) ?_
                  refine JO_sk rfl (wants_none rfl) (sk_store_bx' 5 ti_28 rfl rfl (fun w hh => (hh.cv_ow 7 rfl)) rfl rfl rfl rfl) (sub_bx 0 rfl) ?_
                  refine JD_done (by kernel_rfl) ?_
                  exact N_meet' v65 ⟨rfl, rfl, trivial⟩ [9, 4, 6, 7, 5, 3, 8] rfl rfl
                · refine J_skip ?_
                  refine N_then ?_
                  refine J_seq ?_
                  refine J_region ?_
                  refine JL_q (wants_none rfl) rfl (ex_move rfl) ?_
                  refine JL_q (wants_none rfl) rfl (ex_move rfl) ?_
                  refine JL_st (wants_none rfl) rfl (st_buildSlice (vs := [.int .i64 r66]) ([r66] : List Int) Tryd.underlying28 ti_2 zi_2 rfl rfl rfl (fun w hh => ⟨(Rd.mk_int _ _ _), trivial⟩)) (fun b72 => ?_)
                  refine JL_bnd fun z73 hz74 => ?_
                  refine JL_st (wants_none rfl) rfl (st_append 8 Tryd.underlying28 ti_2 zi_2 rfl bi_2 rfl rfl rfl rfl (fun w hh => hh.src_ow 0 rfl) hz74) (fun v75 => ?_)
                  refine JL_q (wants_none rfl) rfl (ex_assign rfl) ?_
                  refine JL_nil ?_
                  refine N_then ?_
                  refine J_ret ?_
                  refine N_inlD1 hK68 rfl (rv_tmp rfl) 1 [4] rfl rfl ?_
                  refine JD_take (i := 14) hp28 rfl (by kernel_rfl) (by kernel_rfl) (by kernel_rfl) (wants_none rfl) rfl (ex_nilCheck rfl) ?_
                  refine JD_take (i := 15) hp28 rfl (by kernel_rfl) (by kernel_rfl) (by kernel_rfl) (wants_none rfl) rfl (ex_fieldAddr fi_79_3 rfl rfl) ?_
                  refine JD_one (i := 16) (by kernel_rfl) ?_
                  refine JO_sk rfl (wants_none rfl) (sk_store_bx' 6 ti_28 rfl rfl (fun w hh => (hh.cv_ow 8 rfl)) rfl rfl rfl rfl) (sub_bx 0 rfl) ?_
                  refine JD_done (by kernel_rfl) ?_
                  exact N_meet' v75 ⟨rfl, rfl, trivial⟩ [10, 5, 7, 8, 6, 4, 9] rfl rfl
              · refine JL_passed rfl rfl rfl h70 ?_
                refine JL_passed rfl rfl rfl h70 ?_
                refine JL_passed rfl rfl rfl h70 ?_
                refine JL_q (wants_none rfl) rfl (ex_pick_false rfl h70 rfl) ?_
                refine JL_nil ?_
                refine N_then ?_
                refine J_if_false rfl rfl ?_
                refine J_skip ?_
                refine N_then ?_
                refine J_seq ?_
                refine J_region ?_
                refine JL_q (wants_none rfl) rfl (ex_move rfl) ?_
                refine JL_q (wants_none rfl) rfl (ex_move rfl) ?_
                refine JL_st (wants_none rfl) rfl (st_buildSlice (vs := [.int .i64 r66]) ([r66] : List Int) Tryd.underlying28 ti_2 zi_2 rfl rfl rfl (fun w hh => ⟨(Rd.mk_int _ _ _), trivial⟩)) (fun b76 => ?_)
                refine JL_bnd fun z77 hz78 => ?_
                refine JL_st (wants_none rfl) rfl (st_append 8 Tryd.underlying28 ti_2 zi_2 rfl bi_2 rfl rfl rfl rfl (fun w hh => hh.src_ow 0 rfl) hz78) (fun v79 => ?_)
                refine JL_q (wants_none rfl) rfl (ex_assign rfl) ?_
                refine JL_nil ?_
                refine N_then ?_
                refine J_ret ?_
                refine N_inlD1 hK68 rfl (rv_tmp rfl) 1 [4] rfl rfl ?_
                refine JD_take (i := 14) hp28 rfl (by kernel_rfl) (by kernel_rfl) (by kernel_rfl) (wants_none rfl) rfl (ex_nilCheck rfl) ?_
                refine JD_take (i := 15) hp28 rfl (by kernel_rfl) (by kernel_rfl) (by kernel_rfl) (wants_none rfl) rfl (ex_fieldAddr fi_79_3 rfl rfl) ?_
                refine JD_one (i := 16) (by kernel_rfl) ?_
                refine JO_sk rfl (wants_none rfl) (sk_store_bx' 6 ti_28 rfl rfl (fun w hh => (hh.cv_ow 8 rfl)) rfl rfl rfl rfl) (sub_bx 0 rfl) ?_
                refine JD_done (by kernel_rfl) ?_
                exact N_meet' v79 ⟨rfl, rfl, trivial⟩ [10, 5, 7, 8, 6, 4, 9] rfl rfl
          · refine JO_q rfl (wants_none rfl) rfl (ex_load_bx 2 ti_28 rfl rfl rfl) ?_
            refine JD_one (i := 7) (by kernel_rfl) ?_
            refine JO_inline h1_30 [2, 3, 4] [0] rfl rfl rfl rfl (wants_none rfl) rfl Tryd.call54 rfl Tryd.func54 rfl Tryd.ntmps54 rfl rfl (fun C81 K_ hK80 => ?_)
            refine J_seq ?_
            refine J_region ?_
            refine JL_q (wants_none rfl) rfl (ex_assign rfl) ?_
            refine JL_nil ?_
            refine N_then ?_
            refine J_seq ?_
            refine J_seq ?_
            refine J_region ?_
            refine JL_q (wants_none rfl) rfl (ex_move rfl) ?_
            refine JL_q (wants_none rfl) rfl (ex_eql rfl rfl) ?_
            refine JL_q (wants_none rfl) rfl (ex_move rfl) ?_
            refine JL_cond (fun h82 => ?_) (fun h82 => ?_)
            · refine JL_q (wants_some rfl rfl rfl h82) rfl (ex_move rfl) ?_
              refine JL_q (wants_some rfl rfl rfl h82) rfl (ex_len_ow 5 Tryd.underlying28 rfl rfl) ?_
              refine JL_q (wants_some rfl rfl rfl h82) rfl (ex_eql rfl rfl) ?_
              refine JL_q (wants_none rfl) rfl (ex_pick_true rfl h82 rfl) ?_
              refine JL_nil ?_
              refine N_then ?_
              refine J_if rfl (fun h83 => ?_) (fun h83 => ?_)
              · refine J_seq ?_
                refine J_region ?_
                refine JL_q (wants_none rfl) rfl (ex_move rfl) ?_
                refine JL_q (wants_none rfl) rfl (ex_assign rfl) ?_
                refine JL_nil ?_
                refine N_then ?_
                refine J_ret ?_
                refine N_then_ret ?_
                refine N_inlD1 hK80 rfl (rv_tmp rfl) 0 [1] rfl rfl ?_
                refine JD_bnd fun r84 hr85 => ?_
                refine JD_one (i := 12) (by kernel_rfl) ?_
                refine JO_call rfl (wants_none rfl) rfl Tryd.call55 rfl (Ca_of0 fun w hh => c_impl_nearest _ w (fun _ hk => hk.elim) _ _ (hh.ow0 4 rfl) _ hr85) (fun _ => ?_)
                refine JD_one (i := 13) (by kernel_rfl) ?_
                refine JO_inline h1_30 [2, 3, 4] [0] rfl rfl rfl rfl (wants_none rfl) rfl Tryd.call54 rfl Tryd.func54 rfl Tryd.ntmps54 rfl rfl (fun C87 K_ hK86 => ?_)
                refine J_seq ?_
                refine J_region ?_
                refine JL_q (wants_none rfl) rfl (ex_assign rfl) ?_
                refine JL_nil ?_
                refine N_then ?_
                refine J_seq ?_
                refine J_seq ?_
                refine J_region ?_
                refine JL_q (wants_none rfl) rfl (ex_move rfl) ?_
                refine JL_q (wants_none rfl) rfl (ex_eql rfl rfl) ?_
                refine JL_q (wants_none rfl) rfl (ex_move rfl) ?_
                refine JL_cond (fun h88 => ?_) (fun h88 => ?_)
                · refine JL_q (wants_some rfl rfl rfl h88) rfl (ex_move rfl) ?_
                  refine JL_q (wants_some rfl rfl rfl h88) rfl (ex_len_ow 6 Tryd.underlying28 rfl rfl) ?_
                  refine JL_q (wants_some rfl rfl rfl h88) rfl (ex_eql rfl rfl) ?_
                  refine JL_q (wants_none rfl) rfl (ex_pick_true rfl h88 rfl) ?_
                  refine JL_nil ?_
                  refine N_then ?_
                  refine J_if_true rfl h83 ?_
                  refine J_seq ?_
                  refine J_region ?_
                  refine JL_q (wants_none rfl) rfl (ex_move rfl) ?_
                  refine JL_q (wants_none rfl) rfl (ex_assign rfl) ?_
                  refine JL_nil ?_
                  refine N_then ?_
                  refine J_ret ?_
                  refine N_then_ret ?_
                  refine N_inlD1 hK86 rfl (rv_tmp rfl) 0 [2] rfl rfl ?_
                  refine JD_take (i := 14) hp28 rfl (by kernel_rfl) (by kernel_rfl) (by kernel_rfl) (wants_none rfl) rfl (ex_nilCheck rfl) ?_
                  refine JD_take (i := 15) hp28 rfl (by kernel_rfl) (by kernel_rfl) (by kernel_rfl) (wants_none rfl) rfl (ex_fieldAddr fi_79_3 rfl rfl) ?_
                  refine JD_one (i := 16) (by kernel_rfl) ?_
                  refine JO_sk rfl (wants_none rfl) (sk_store_bx' 4 ti_28 rfl rfl (fun w hh => (hh.cv_ow 6 rfl)) rfl rfl rfl rfl) (sub_bx 0 rfl) ?_
                  refine JD_done (by kernel_rfl) ?_
                  exact N_meet' v7 ⟨rfl, rfl, trivial⟩ [8, 3, 5, 6, 4, 2, 7] rfl rfl
                · refine JL_passed rfl rfl rfl h88 ?_
                  refine JL_passed rfl rfl rfl h88 ?_
                  refine JL_passed rfl rfl rfl h88 ?_
                  refine JL_q (wants_none rfl) rfl (ex_pick_false rfl h88 rfl) ?_
                  refine JL_nil ?_
                  refine N_then ?_
                  refine J_if_false rfl rfl ?_
                  refine J_skip ?_
                  refine N_then ?_
                  refine J_seq ?_
                  refine J_region ?_
                  refine JL_q (wants_none rfl) rfl (ex_move rfl) ?_
                  refine JL_q (wants_none rfl) rfl (ex_move rfl) ?_
                  refine JL_st (wants_none rfl) rfl (st_buildSlice (vs := [.int .i64 r84]) ([r84] : List Int) Tryd.underlying28 ti_2 zi_2 rfl rfl rfl (fun w hh => ⟨(Rd.mk_int _ _ _), trivial⟩)) (fun b89 => ?_)
                  refine JL_bnd fun z90 hz91 => ?_
                  refine JL_st (wants_none rfl) rfl (st_append 7 Tryd.underlying28 ti_2 zi_2 rfl bi_2 rfl rfl rfl rfl (fun w hh => hh.src_ow 0 rfl) hz91) (fun v92 => ?_)
                  refine JL_q (wants_none rfl) rfl (ex_assign rfl) ?_
                  refine JL_nil ?_
                  refine N_then ?_
                  refine J_ret ?_
                  refine N_inlD1 hK86 rfl (rv_tmp rfl) 1 [3] rfl rfl ?_
                  refine JD_take (i := 14) hp28 rfl (by kernel_rfl) (by kernel_rfl) (by kernel_rfl) (wants_none rfl) rfl (ex_nilCheck rfl) ?_
                  refine JD_take (i := 15) hp28 rfl (by kernel_rfl) (by kernel_rfl) (by kernel_rfl) (wants_none rfl) rfl (ex_fieldAddr fi_79_3 rfl rfl) ?_
                  refine JD_one (i := 16) (by kernel_rfl) ?_
                  refine JO_sk rfl (wants_none rfl) (sk_store_bx' 5 ti_28 rfl rfl (fun w hh => (hh.cv_ow 7 rfl)) rfl rfl rfl rfl) (sub_bx 0 rfl) ?_
                  refine JD_done (by kernel_rfl) ?_
                  exact N_meet' v92 ⟨rfl, rfl, trivial⟩ [9, 4, 6, 7, 5, 3, 8] rfl rfl
              · refine J_skip ?_
                refine N_then ?_
                refine J_seq ?_
                refine J_region ?_
                refine JL_q (wants_none rfl) rfl (ex_move rfl) ?_
                refine JL_q (wants_none rfl) rfl (ex_move rfl) ?_
                refine JL_st (wants_none rfl) rfl (st_buildSlice (vs := [.int .i64 r1.Write]) ([r1.Write] : List Int) Tryd.underlying28 ti_2 zi_2 rfl rfl rfl (fun w hh => ⟨(Rd.mk_int _ _ _), trivial⟩)) (fun b93 => ?_)
                refine JL_bnd fun z94 hz95 => ?_
                refine JL_st (wants_none rfl) rfl (st_append 6 Tryd.underlying28 ti_2 zi_2 rfl bi_2 rfl rfl rfl rfl (fun w hh => hh.src_ow 0 rfl) hz95) (fun v96 => ?_)
                refine JL_q (wants_none rfl) rfl (ex_assign rfl) ?_
                refine JL_nil ?_
                refine N_then ?_
                refine J_ret ?_
                refine N_inlD1 hK80 rfl (rv_tmp rfl) 1 [2] rfl rfl ?_
                refine JD_bnd fun r97 hr98 => ?_
                refine JD_one (i := 12) (by kernel_rfl) ?_
                refine JO_call rfl (wants_none rfl) rfl Tryd.call55 rfl (Ca_of0 fun w hh => c_impl_nearest _ w (fun _ hk => hk.elim) _ _ (hh.ow0 5 rfl) _ hr98) (fun _ => ?_)
                refine JD_one (i := 13) (by kernel_rfl) ?_
                refine JO_inline h1_30 [2, 3, 4] [0] rfl rfl rfl rfl (wants_none rfl) rfl Tryd.call54 rfl Tryd.func54 rfl Tryd.ntmps54 rfl rfl (fun C100 K_ hK99 => ?_)
                refine J_seq ?_
                refine J_region ?_
                refine JL_q (wants_none rfl) rfl (ex_assign rfl) ?_
                refine JL_nil ?_
                refine N_then ?_
                refine J_seq ?_
                refine J_seq ?_
                refine J_region ?_
                refine JL_q (wants_none rfl) rfl (ex_move rfl) ?_
                refine JL_q (wants_none rfl) rfl (ex_eql rfl rfl) ?_
                refine JL_q (wants_none rfl) rfl (ex_move rfl) ?_
                refine JL_cond (fun h101 => ?_) (fun h101 => ?_)
                · refine JL_q (wants_some rfl rfl rfl h101) rfl (ex_move rfl) ?_
                  refine JL_q (wants_some rfl rfl rfl h101) rfl (ex_len_ow 7 Tryd.underlying28 rfl rfl) ?_
                  refine JL_q (wants_some rfl rfl rfl h101) rfl (ex_eql rfl rfl) ?_
                  refine JL_q (wants_none rfl) rfl (ex_pick_true rfl h101 rfl) ?_
                  refine JL_nil ?_
                  refine N_then ?_
                  refine J_if rfl (fun h102 => ?_) (fun h102 => ?_)
                  · refine J_seq ?_
                    refine J_region ?_
                    refine JL_q (wants_none rfl) rfl (ex_move rfl) ?_
                    refine JL_q (wants_none rfl) rfl (ex_assign rfl) ?_
                    refine JL_nil ?_
                    refine N_then ?_
                    refine J_ret ?_
                    refine N_then_ret ?_
                    refine N_inlD1 hK99 rfl (rv_tmp rfl) 0 [3] rfl rfl ?_
                    refine JD_take (i := 14) hp28 rfl (by kernel_rfl) (by kernel_rfl) (by kernel_rfl) (wants_none rfl) rfl (ex_nilCheck rfl) ?_
                    refine JD_take (i := 15) hp28 rfl (by kernel_rfl) (by kernel_rfl) (by kernel_rfl) (wants_none rfl) rfl (ex_fieldAddr fi_79_3 rfl rfl) ?_
                    refine JD_one (i := 16) (by kernel_rfl) ?_
                    refine JO_sk rfl (wants_none rfl) (sk_store_bx' 5 ti_28 rfl rfl (fun w hh => (hh.cv_ow 7 rfl)) rfl rfl rfl rfl) (sub_bx 0 rfl) ?_
                    refine JD_done (by kernel_rfl) ?_
                    exact N_meet' v96 ⟨rfl, rfl, trivial⟩ [9, 4, 6, 7, 5, 3, 8] rfl rfl
                  · refine J_skip ?_
                    refine N_then ?_
                    refine J_seq ?_
                    refine J_region ?_
                    refine JL_q (wants_none rfl) rfl (ex_move rfl) ?_
                    refine JL_q (wants_none rfl) rfl (ex_move rfl) ?_
                    refine JL_st (wants_none rfl) rfl (st_buildSlice (vs := [.int .i64 r97]) ([r97] : List Int) Tryd.underlying28 ti_2 zi_2 rfl rfl rfl (fun w hh => ⟨(Rd.mk_int _ _ _), trivial⟩)) (fun b103 => ?_)
                    refine JL_bnd fun z104 hz105 => ?_
                    refine JL_st (wants_none rfl) rfl (st_append 8 Tryd.underlying28 ti_2 zi_2 rfl bi_2 rfl rfl rfl rfl (fun w hh => hh.src_ow 0 rfl) hz105) (fun v106 => ?_)
                    refine JL_q (wants_none rfl) rfl (ex_assign rfl) ?_
                    refine JL_nil ?_
                    refine N_then ?_
                    refine J_ret ?_
                    refine N_inlD1 hK99 rfl (rv_tmp rfl) 1 [4] rfl rfl ?_
                    refine JD_take (i := 14) hp28 rfl (by kernel_rfl) (by kernel_rfl) (by kernel_rfl) (wants_none rfl) rfl (ex_nilCheck rfl) ?_
                    refine JD_take (i := 15) hp28 rfl (by kernel_rfl) (by kernel_rfl) (by kernel_rfl) (wants_none rfl) rfl (ex_fieldAddr fi_79_3 rfl rfl) ?_
                    refine JD_one (i := 16) (by kernel_rfl) ?_
                    refine JO_sk rfl (wants_none rfl) (sk_store_bx' 6 ti_28 rfl rfl (fun w hh => (hh.cv_ow 8 rfl)) rfl rfl rfl rfl) (sub_bx 0 rfl) ?_
                    refine JD_done (by kernel_rfl) ?_
                    exact N_meet' v106 ⟨rfl, rfl, trivial⟩ [10, 5, 7, 8, 6, 4, 9] rfl rfl
                · refine JL_passed rfl rfl rfl h101 ?_
                  refine JL_passed rfl rfl rfl h101 ?_
                  refine JL_passed rfl rfl rfl h101 ?_
                  refine JL_q (wants_none rfl) rfl (ex_pick_false rfl h101 rfl) ?_
                  refine JL_nil ?_
                  refine N_then ?_
                  refine J_if_false rfl rfl ?_
                  refine J_skip ?_
                  refine N_then ?_
                  refine J_seq ?_
                  refine J_region ?_
                  refine JL_q (wants_none rfl) rfl (ex_move rfl) ?_
                  refine JL_q (wants_none rfl) rfl (ex_move rfl) ?_
                  refine JL_st (wants_none rfl) rfl (st_buildSlice (vs := [.int .i64 r97]) ([r97] : List Int) Tryd.underlying28 ti_2 zi_2 rfl rfl rfl (fun w hh => ⟨(Rd.mk_int _ _ _), trivial⟩)) (fun b107 => ?_)
                  refine JL_bnd fun z108 hz109 => ?_
                  refine JL_st (wants_none rfl) rfl (st_append 8 Tryd.underlying28 ti_2 zi_2 rfl bi_2 rfl rfl rfl rfl (fun w hh => hh.src_ow 0 rfl) hz109) (fun v110 => ?_)
                  refine JL_q (wants_none rfl) rfl (ex_assign rfl) ?_
                  refine JL_nil ?_
                  refine N_then ?_
                  refine J_ret ?_
                  refine N_inlD1 hK99 rfl (rv_tmp rfl) 1 [4] rfl rfl ?_
                  refine JD_take (i := 14) hp28 rfl (by kernel_rfl) (by kernel_rfl) (by kernel_rfl) (wants_none rfl) rfl (ex_nilCheck rfl) ?_
                  refine JD_take (i := 15) hp28 rfl (by kernel_rfl) (by kernel_rfl) (by kernel_rfl) (wants_none rfl) rfl (ex_fieldAddr fi_79_3 rfl rfl) ?_
                  refine JD_one (i := 16) (by kernel_rfl) ?_
                  refine JO_sk rfl (wants_none rfl) (sk_store_bx' 6 ti_28 rfl rfl (fun w hh => (hh.cv_ow 8 rfl)) rfl rfl rfl rfl) (sub_bx 0 rfl) ?_
                  refine JD_done (by kernel_rfl) ?_
                  exact N_meet' v110 ⟨rfl, rfl, trivial⟩ [10, 5, 7, 8, 6, 4, 9] rfl rfl
            · refine JL_passed rfl rfl rfl h82 ?_
              refine JL_passed rfl rfl rfl h82 ?_
              refine JL_passed rfl rfl rfl h82 ?_
              refine JL_q (wants_none rfl) rfl (ex_pick_false rfl h82 rfl) ?_
              refine JL_nil ?_
              refine N_then ?_
              refine J_if_false rfl rfl ?_
              refine J_skip ?_
              refine N_then ?_
              refine J_seq ?_
              refine J_region ?_
              refine JL_q (wants_none rfl) rfl (ex_move rfl) ?_
              refine JL_q (wants_none rfl) rfl (ex_move rfl) ?_
              refine JL_st (wants_none rfl) rfl (st_buildSlice (vs := [.int .i64 r1.Write]) ([r1.Write] : List Int) Tryd.underlying28 ti_2 zi_2 rfl rfl rfl (fun w hh => ⟨(Rd.mk_int _ _ _), trivial⟩)) (fun b111 => ?_)
              refine JL_bnd fun z112 hz113 => ?_
              refine JL_st (wants_none rfl) rfl (st_append 6 Tryd.underlying28 ti_2 zi_2 rfl bi_2 rfl rfl rfl rfl (fun w hh => hh.src_ow 0 rfl) hz113) (fun v114 => ?_)
              refine JL_q (wants_none rfl) rfl (ex_assign rfl) ?_
              refine JL_nil ?_
              refine N_then ?_
              refine J_ret ?_
              refine N_inlD1 hK80 rfl (rv_tmp rfl) 1 [2] rfl rfl ?_
              refine JD_bnd fun r115 hr116 => ?_
              refine JD_one (i := 12) (by kernel_rfl) ?_
              refine JO_call rfl (wants_none rfl) rfl Tryd.call55 rfl (Ca_of0 fun w hh => c_impl_nearest _ w (fun _ hk => hk.elim) _ _ (hh.ow0 5 rfl) _ hr116) (fun _ => ?_)
              refine JD_one (i := 13) (by kernel_rfl) ?_
              refine JO_inline h1_30 [2, 3, 4] [0] rfl rfl rfl rfl (wants_none rfl) rfl Tryd.call54 rfl Tryd.func54 rfl Tryd.ntmps54 rfl rfl (fun C118 K_ hK117 => ?_)
              refine J_seq ?_
              refine J_region ?_
              refine JL_q (wants_none rfl) rfl (ex_assign rfl) ?_
              refine JL_nil ?_
              refine N_then ?_
              refine J_seq ?_
              refine J_seq ?_
              refine J_region ?_
              refine JL_q (wants_none rfl) rfl (ex_move rfl) ?_
              refine JL_q (wants_none rfl) rfl (ex_eql rfl rfl) ?_
              refine JL_q (wants_none rfl) rfl (ex_move rfl) ?_
              refine JL_cond (fun h119 => ?_) (fun h119 => ?_)
              · refine JL_q (wants_some rfl rfl rfl h119) rfl (ex_move rfl) ?_
                refine JL_q (wants_some rfl rfl rfl h119) rfl (ex_len_ow 7 Tryd.underlying28 rfl rfl) ?_
                refine JL_q (wants_some rfl rfl rfl h119) rfl (ex_eql rfl rfl) ?_
                refine JL_q (wants_none rfl) rfl (ex_pick_true rfl h119 rfl) ?_
                refine JL_nil ?_
                refine N_then ?_
                refine J_if rfl (fun h120 => ?_) (fun h120 => ?_)
                · refine J_seq ?_
                  refine J_region ?_
                  refine JL_q (wants_none rfl) rfl (ex_move rfl) ?_
                  refine JL_q (wants_none rfl) rfl (ex_assign rfl) ?_
                  refine JL_nil ?_
                  refine N_then ?_
                  refine J_ret ?_
                  refine N_then_ret ?_
                  refine N_inlD1 hK117 rfl (rv_tmp rfl) 0 [3] rfl rfl ?_
                  refine JD_take (i := 14) hp28 rfl (by kernel_rfl) (by kernel_rfl) (by kernel_rfl) (wants_none rfl) rfl (ex_nilCheck rfl) ?_
                  refine JD_take (i := 15) hp28 rfl (by kernel_rfl) (by kernel_rfl) (by kernel_rfl) (wants_none rfl) rfl (ex_fieldAddr fi_79_3 rfl rfl) ?_
                  refine JD_one (i := 16) (by kernel_rfl) ?_
                  refine JO_sk rfl (wants_none rfl) (sk_store_bx' 5 ti_28 rfl rfl (fun w hh => (hh.cv_ow 7 rfl)) rfl rfl rfl rfl) (sub_bx 0 rfl) ?_
                  refine JD_done (by kernel_rfl) ?_
                  exact N_meet' v114 ⟨rfl, rfl, trivial⟩ [9, 4, 6, 7, 5, 3, 8] rfl rfl
                · refine J_skip ?_
                  refine N_then ?_
                  refine J_seq ?_
                  refine J_region ?_
                  refine JL_q (wants_none rfl) rfl (ex_move rfl) ?_
                  refine JL_q (wants_none rfl) rfl (ex_move rfl) ?_
                  refine JL_st (wants_none rfl) rfl (st_buildSlice (vs := [.int .i64 r115]) ([r115] : List Int) Tryd.underlying28 ti_2 zi_2 rfl rfl rfl (fun w hh => ⟨(Rd.mk_int _ _ _), trivial⟩)) (fun b121 => ?_)
                  refine JL_bnd fun z122 hz123 => ?_
                  refine JL_st (wants_none rfl) rfl (st_append 8 Tryd.underlying28 ti_2 zi_2 rfl bi_2 rfl rfl rfl rfl (fun w hh => hh.src_ow 0 rfl) hz123) (fun v124 => ?_)
                  refine JL_q (wants_none rfl) rfl (ex_assign rfl) ?_
                  refine JL_nil ?_
                  refine N_then ?_
                  refine J_ret ?_
                  refine N_inlD1 hK117 rfl (rv_tmp rfl) 1 [4] rfl rfl ?_
                  refine JD_take (i := 14) hp28 rfl (by kernel_rfl) (by kernel_rfl) (by kernel_rfl) (wants_none rfl) rfl (ex_nilCheck rfl) ?_
                  refine JD_take (i := 15) hp28 rfl (by kernel_rfl) (by kernel_rfl) (by kernel_rfl) (wants_none rfl) rfl (ex_fieldAddr fi_79_3 rfl rfl) ?_
                  refine JD_one (i := 16) (by kernel_rfl) ?_
                  refine JO_sk rfl (wants_none rfl) (sk_store_bx' 6 ti_28 rfl rfl (fun w hh => (hh.cv_ow 8 rfl)) rfl rfl rfl rfl) (sub_bx 0 rfl) ?_
                  refine JD_done (by kernel_rfl) ?_
                  exact N_meet' v124 ⟨rfl, rfl, trivial⟩ [10, 5, 7, 8, 6, 4, 9] rfl rfl
              · refine JL_passed rfl rfl rfl h119 ?_
                refine JL_passed rfl rfl rfl h119 ?_
                refine JL_passed rfl rfl rfl h119 ?_
                refine JL_q (wants_none rfl) rfl (ex_pick_false rfl h119 rfl) ?_
                refine JL_nil ?_
                refine N_then ?_
                refine J_if_false rfl rfl ?_
                refine J_skip ?_
                refine N_then ?_
                refine J_seq ?_
                refine J_region ?_
                refine JL_q (wants_none rfl) rfl (ex_move rfl) ?_
                refine JL_q (wants_none rfl) rfl (ex_move rfl) ?_
                refine JL_st (wants_none rfl) rfl (st_buildSlice (vs := [.int .i64 r115]) ([r115] : List Int) Tryd.underlying28 ti_2 zi_2 rfl rfl rfl (fun w hh => ⟨(Rd.mk_int _ _ _), trivial⟩)) (fun b125 => ?_)
                refine JL_bnd fun z126 hz127 => ?_
                refine JL_st (wants_none rfl) rfl (st_append 8 Tryd.underlying28 ti_2 zi_2 rfl bi_2 rfl rfl rfl rfl (fun w hh => hh.src_ow 0 rfl) hz127) (fun v128 => ?_)
                refine JL_q (wants_none rfl) rfl (ex_assign rfl) ?_
                refine JL_nil ?_
                refine N_then ?_
                refine J_ret ?_
                refine N_inlD1 hK117 rfl (rv_tmp rfl) 1 [4] rfl rfl ?_
                refine JD_take (i := 14) hp28 rfl (by kernel_rfl) (by kernel_rfl) (by kernel_rfl) (wants_none rfl) rfl (ex_nilCheck rfl) ?_
                refine JD_take (i := 15) hp28 rfl (by kernel_rfl) (by kernel_rfl) (by kernel_rfl) (wants_none rfl) rfl (ex_fieldAddr fi_79_3 rfl rfl) ?_
                refine JD_one (i := 16) (by kernel_rfl) ?_
                refine JO_sk rfl (wants_none rfl) (sk_store_bx' 6 ti_28 rfl rfl (fun w hh => (hh.cv_ow 8 rfl)) rfl rfl rfl rfl) (sub_bx 0 rfl) ?_
                refine JD_done (by kernel_rfl) ?_
                exact N_meet' v128 ⟨rfl, rfl, trivial⟩ [10, 5, 7, 8, 6, 4, 9] rfl rfl
        · refine JO_q rfl (wants_none rfl) rfl (ex_load_bx 2 ti_28 rfl rfl rfl) ?_
          refine JD_one (i := 4) (by kernel_rfl) ?_
          refine JO_q rfl (wants_none rfl) rfl (ex_load_bx 2 ti_28 rfl rfl rfl) ?_
          refine JD_one (i := 7) (by kernel_rfl) ?_
          refine JO_inline h1_30 [2, 3, 4] [0] rfl rfl rfl rfl (wants_none rfl) rfl Tryd.call54 rfl Tryd.func54 rfl Tryd.ntmps54 rfl rfl (fun C130 K_ hK129 => ?_)
          refine J_seq ?_
          refine J_region ?_
          refine JL_q (wants_none rfl) rfl (ex_assign rfl) ?_
          refine JL_nil ?_
          refine N_then ?_
          refine J_seq ?_
          refine J_seq ?_
          refine J_region ?_
          refine JL_q (wants_none rfl) rfl (ex_move rfl) ?_
          refine JL_q (wants_none rfl) rfl (ex_eql rfl rfl) ?_
          refine JL_q (wants_none rfl) rfl (ex_move rfl) ?_
          refine JL_cond (fun h131 => ?_) (fun h131 => ?_)
          · refine JL_q (wants_some rfl rfl rfl h131) rfl (ex_move rfl) ?_
            refine JL_q (wants_some rfl rfl rfl h131) rfl (ex_len_ow 5 Tryd.underlying28 rfl rfl) ?_
            refine JL_q (wants_some rfl rfl rfl h131) rfl (ex_eql rfl rfl) ?_
            refine JL_q (wants_none rfl) rfl (ex_pick_true rfl h131 rfl) ?_
            refine JL_nil ?_
            refine N_then ?_
            refine J_if rfl (fun h132 => ?_) (fun h132 => ?_)
            · refine J_seq ?_
              refine J_region ?_
              refine JL_q (wants_none rfl) rfl (ex_move rfl) ?_
              refine JL_q (wants_none rfl) rfl (ex_assign rfl) ?_
              refine JL_nil ?_
              refine N_then ?_
              refine J_ret ?_
              refine N_then_ret ?_
              refine N_inlD1 hK129 rfl (rv_tmp rfl) 0 [1] rfl rfl ?_
              refine JD_bnd fun r133 hr134 => ?_
              refine JD_one (i := 12) (by kernel_rfl) ?_
              refine JO_call rfl (wants_none rfl) rfl Tryd.call55 rfl (Ca_of0 fun w hh => c_impl_nearest _ w (fun _ hk => hk.elim) _ _ (hh.ow0 4 rfl) _ hr134) (fun _ => ?_)
              refine JD_one (i := 13) (by kernel_rfl) ?_
              refine JO_inline h1_30 [2, 3, 4] [0] rfl rfl rfl rfl (wants_none rfl) rfl Tryd.call54 rfl Tryd.func54 rfl Tryd.ntmps54 rfl rfl (fun C136 K_ hK135 => ?_)
              refine J_seq ?_
              refine J_region ?_
              refine JL_q (wants_none rfl) rfl (ex_assign rfl) ?_
              refine JL_nil ?_
              refine N_then ?_
              refine J_seq ?_
              refine J_seq ?_
              refine J_region ?_
              refine JL_q (wants_none rfl) rfl (ex_move rfl) ?_
              refine JL_q (wants_none rfl) rfl (ex_eql rfl rfl) ?_
              refine JL_q (wants_none rfl) rfl (ex_move rfl) ?_
              refine JL_cond (fun h137 => ?_) (fun h137 => ?_)
              · refine JL_q (wants_some rfl rfl rfl h137) rfl (ex_move rfl) ?_
                refine JL_q (wants_some rfl rfl rfl h137) rfl (ex_len_ow 6 Tryd.underlying28 rfl rfl) ?_
                refine JL_q (wants_some rfl rfl rfl h137) rfl (ex_eql rfl rfl) ?_
                refine JL_q (wants_none rfl) rfl (ex_pick_true rfl h137 rfl) ?_
                refine JL_nil ?_
                refine N_then ?_
                refine J_if_true rfl h132 ?_
                refine J_seq ?_
                refine J_region ?_
                refine JL_q (wants_none rfl) rfl (ex_move rfl) ?_
                refine JL_q (wants_none rfl) rfl (ex_assign rfl) ?_
                refine JL_nil ?_
                refine N_then ?_
                refine J_ret ?_
                refine N_then_ret ?_
                refine N_inlD1 hK135 rfl (rv_tmp rfl) 0 [2] rfl rfl ?_
                refine JD_take (i := 14) hp28 rfl (by kernel_rfl) (by kernel_rfl) (by kernel_rfl) (wants_none rfl) rfl (ex_nilCheck rfl) ?_
                refine JD_take (i := 15) hp28 rfl (by kernel_rfl) (by kernel_rfl) (by kernel_rfl) (wants_none rfl) rfl (ex_fieldAddr fi_79_3 rfl rfl) ?_
                refine JD_one (i := 16) (by kernel_rfl) ?_
                refine JO_sk rfl (wants_none rfl) (sk_store_bx' 4 ti_28 rfl rfl (fun w hh => (hh.cv_ow 6 rfl)) rfl rfl rfl rfl) (sub_bx 0 rfl) ?_
                refine JD_done (by kernel_rfl) ?_
                exact N_meet' v7 ⟨rfl, rfl, trivial⟩ [8, 3, 5, 6, 4, 2, 7] rfl rfl
              · refine JL_passed rfl rfl rfl h137 ?_
                refine JL_passed rfl rfl rfl h137 ?_
                refine JL_passed rfl rfl rfl h137 ?_
                refine JL_q (wants_none rfl) rfl (ex_pick_false rfl h137 rfl) ?_
                refine JL_nil ?_
                refine N_then ?_
                refine J_if_false rfl rfl ?_
                refine J_skip ?_
                refine N_then ?_
                refine J_seq ?_
                refine J_region ?_
                refine JL_q (wants_none rfl) rfl (ex_move rfl) ?_
                refine JL_q (wants_none rfl) rfl (ex_move rfl) ?_
                refine JL_st (wants_none rfl) rfl (st_buildSlice (vs := [.int .i64 r133]) ([r133] : List Int) Tryd.underlying28 ti_2 zi_2 rfl rfl rfl (fun w hh => ⟨(Rd.mk_int _ _ _), trivial⟩)) (fun b138 => ?_)
                refine JL_bnd fun z139 hz140 => ?_
                refine JL_st (wants_none rfl) rfl (st_append 7 Tryd.underlying28 ti_2 zi_2 rfl bi_2 rfl rfl rfl rfl (fun w hh => hh.src_ow 0 rfl) hz140) (fun v141 => ?_)
                refine JL_q (wants_none rfl) rfl (ex_assign rfl) ?_
                refine JL_nil ?_
                refine N_then ?_
                refine J_ret ?_
                refine N_inlD1 hK135 rfl (rv_tmp rfl) 1 [3] rfl rfl ?_
                refine JD_take (i := 14) hp28 rfl (by kernel_rfl) (by kernel_rfl) (by kernel_rfl) (wants_none rfl) rfl (ex_nilCheck rfl) ?_
                refine JD_take (i := 15) hp28 rfl (by kernel_rfl) (by kernel_rfl) (by kernel_rfl) (wants_none rfl) rfl (ex_fieldAddr fi_79_3 rfl rfl) ?_
                refine JD_one (i := 16) (by kernel_rfl) ?_
                refine JO_sk rfl (wants_none rfl) (sk_store_bx' 5 ti_28 rfl rfl (fun w hh => (hh.cv_ow 7 rfl)) rfl rfl rfl rfl) (sub_bx 0 rfl) ?_
                refine JD_done (by kernel_rfl) ?_
                exact N_meet' v141 ⟨rfl, rfl, trivial⟩ [9, 4, 6, 7, 5, 3, 8] rfl rfl
            · refine J_skip ?_
              refine N_then ?_
              refine J_seq ?_
              refine J_region ?_
              refine JL_q (wants_none rfl) rfl (ex_move rfl) ?_
              refine JL_q (wants_none rfl) rfl (ex_move rfl) ?_
              refine JL_st (wants_none rfl) rfl (st_buildSlice (vs := [.int .i64 r1.Write]) ([r1.Write] : List Int) Tryd.underlying28 ti_2 zi_2 rfl rfl rfl (fun w hh => ⟨(Rd.mk_int _ _ _), trivial⟩)) (fun b142 => ?_)
              refine JL_bnd fun z143 hz144 => ?_
              refine JL_st (wants_none rfl) rfl (st_append 6 Tryd.underlying28 ti_2 zi_2 rfl bi_2 rfl rfl rfl rfl (fun w hh => hh.src_ow 0 rfl) hz144) (fun v145 => ?_)
              refine JL_q (wants_none rfl) rfl (ex_assign rfl) ?_
              refine JL_nil ?_
              refine N_then ?_
              refine J_ret ?_
              refine N_inlD1 hK129 rfl (rv_tmp rfl) 1 [2] rfl rfl ?_
              refine JD_bnd fun r146 hr147 => ?_
              refine JD_one (i := 12) (by kernel_rfl) ?_
              refine JO_call rfl (wants_none rfl) rfl Tryd.call55 rfl (Ca_of0 fun w hh => c_impl_nearest _ w (fun _ hk => hk.elim) _ _ (hh.ow0 5 rfl) _ hr147) (fun _ => ?_)
              refine JD_one (i := 13) (by kernel_rfl) ?_
              refine JO_inline h1_30 [2, 3, 4] [0] rfl rfl rfl rfl (wants_none rfl) rfl Tryd.call54 rfl Tryd.func54 rfl Tryd.ntmps54 rfl rfl (fun C149 K_ hK148 => ?_)
              refine J_seq ?_
              refine J_region ?_
              refine JL_q (wants_none rfl) rfl (ex_assign rfl) ?_
              refine JL_nil ?_
              refine N_then ?_
              refine J_seq ?_
              refine J_seq ?_
              refine J_region ?_
              refine JL_q (wants_none rfl) rfl (ex_move rfl) ?_
              refine JL_q (wants_none rfl) rfl (ex_eql rfl rfl) ?_
              refine JL_q (wants_none rfl) rfl (ex_move rfl) ?_
              refine JL_cond (fun h150 => ?_) (fun h150 => ?_)
              · refine JL_q (wants_some rfl rfl rfl h150) rfl (ex_move rfl) ?_
                refine JL_q (wants_some rfl rfl rfl h150) rfl (ex_len_ow 7 Tryd.underlying28 rfl rfl) ?_
                refine JL_q (wants_some rfl rfl rfl h150) rfl (ex_eql rfl rfl) ?_
                refine JL_q (wants_none rfl) rfl (ex_pick_true rfl h150 rfl) ?_
                refine JL_nil ?_
                refine N_then ?_
                refine J_if rfl (fun h151 => ?_) (fun h151 => ?_)
                · refine J_seq ?_
                  refine J_region ?_
                  refine JL_q (wants_none rfl) rfl (ex_move rfl) ?_
                  refine JL_q (wants_none rfl) rfl (ex_assign rfl) ?_
                  refine JL_nil ?_
                  refine N_then ?_
                  refine J_ret ?_
                  refine N_then_ret ?_
                  refine N_inlD1 hK148 rfl (rv_tmp rfl) 0 [3] rfl rfl ?_
                  refine JD_take (i := 14) hp28 rfl (by kernel_rfl) (by kernel_rfl) (by kernel_rfl) (wants_none rfl) rfl (ex_nilCheck rfl) ?_
                  refine JD_take (i := 15) hp28 rfl (by kernel_rfl) (by kernel_rfl) (by kernel_rfl) (wants_none rfl) rfl (ex_fieldAddr fi_79_3 rfl rfl) ?_
                  refine JD_one (i := 16) (by kernel_rfl) ?_
                  refine JO_sk rfl (wants_none rfl) (sk_store_bx' 5 ti_28 rfl rfl (fun w hh => (hh.cv_ow 7 rfl)) rfl rfl rfl rfl) (sub_bx 0 rfl) ?_
                  refine JD_done (by kernel_rfl) ?_
                  exact N_meet' v145 ⟨rfl, rfl, trivial⟩ [9, 4, 6, 7, 5, 3, 8] rfl rfl
                · refine J_skip ?_
                  refine N_then ?_
                  refine J_seq ?_
                  refine J_region ?_
                  refine JL_q (wants_none rfl) rfl (ex_move rfl) ?_
                  refine JL_q (wants_none rfl) rfl (ex_move rfl) ?_
                  refine JL_st (wants_none rfl) rfl (st_buildSlice (vs := [.int .i64 r146]) ([r146] : List Int) Tryd.underlying28 ti_2 zi_2 rfl rfl rfl (fun w hh => ⟨(Rd.mk_int _ _ _), trivial⟩)) (fun b152 => ?_)
                  refine JL_bnd fun z153 hz154 => ?_
                  refine JL_st (wants_none rfl) rfl (st_append 8 Tryd.underlying28 ti_2 zi_2 rfl bi_2 rfl rfl rfl rfl (fun w hh => hh.src_ow 0 rfl) hz154) (fun v155 => ?_)
                  refine JL_q (wants_none rfl) rfl (ex_assign rfl) ?_
                  refine JL_nil ?_
                  refine N_then ?_
                  refine J_ret ?_
                  refine N_inlD1 hK148 rfl (rv_tmp rfl) 1 [4] rfl rfl ?_
                  refine JD_take (i := 14) hp28 rfl (by kernel_rfl) (by kernel_rfl) (by kernel_rfl) (wants_none rfl) rfl (ex_nilCheck rfl) ?_
                  refine JD_take (i := 15) hp28 rfl (by kernel_rfl) (by kernel_rfl) (by kernel_rfl) (wants_none rfl) rfl (ex_fieldAddr fi_79_3 rfl rfl) ?_
                  refine JD_one (i := 16) (by kernel_rfl) ?_
                  refine JO_sk rfl (wants_none rfl) (sk_store_bx' 6 ti_28 rfl rfl (fun w hh => (hh.cv_ow 8 rfl)) rfl rfl rfl rfl) (sub_bx 0 rfl) ?_
                  refine JD_done (by kernel_rfl) ?_
                  exact N_meet' v155 ⟨rfl, rfl, trivial⟩ [10, 5, 7, 8, 6, 4, 9] rfl rfl
              · refine JL_passed rfl rfl rfl h150 ?_
                refine JL_passed rfl rfl rfl h150 ?_
                refine JL_passed rfl rfl rfl h150 ?_
                refine JL_q (wants_none rfl) rfl (ex_pick_false rfl h150 rfl) ?_
                refine JL_nil ?_
                refine N_then ?_
                refine J_if_false rfl rfl ?_
                refine J_skip ?_
                refine N_then ?_
                refine J_seq ?_
                refine J_region ?_
                refine JL_q (wants_none rfl) rfl (ex_move rfl) ?_
                refine JL_q (wants_none rfl) rfl (ex_move rfl) ?_
                refine JL_st (wants_none rfl) rfl (st_buildSlice (vs := [.int .i64 r146]) ([r146] : List Int) Tryd.underlying28 ti_2 zi_2 rfl rfl rfl (fun w hh => ⟨(Rd.mk_int _ _ _), trivial⟩)) (fun b156 => ?_)
                refine JL_bnd fun z157 hz158 => ?_
                refine JL_st (wants_none rfl) rfl (st_append 8 Tryd.underlying28 ti_2 zi_2 rfl bi_2 rfl rfl rfl rfl (fun w hh => hh.src_ow 0 rfl) hz158) (fun v159 => ?_)
                refine JL_q (wants_none rfl) rfl (ex_assign rfl) ?_
                refine JL_nil ?_
                refine N_then ?_
                refine J_ret ?_
                refine N_inlD1 hK148 rfl (rv_tmp rfl) 1 [4] rfl rfl ?_
                refine JD_take (i := 14) hp28 rfl (by kernel_rfl) (by kernel_rfl) (by kernel_rfl) (wants_none rfl) rfl (ex_nilCheck rfl) ?_
                refine JD_take (i := 15) hp28 rfl (by kernel_rfl) (by kernel_rfl) (by kernel_rfl) (wants_none rfl) rfl (ex_fieldAddr fi_79_3 rfl rfl) ?_
                refine JD_one (i := 16) (by kernel_rfl) ?_
                refine JO_sk rfl (wants_none rfl) (sk_store_bx' 6 ti_28 rfl rfl (fun w hh => (hh.cv_ow 8 rfl)) rfl rfl rfl rfl) (sub_bx 0 rfl) ?_
                refine JD_done (by kernel_rfl) ?_
                exact N_meet' v159 ⟨rfl, rfl, trivial⟩ [10, 5, 7, 8, 6, 4, 9] rfl rfl
          · refine JL_passed rfl rfl rfl h131 ?_
            refine JL_passed rfl rfl rfl h131 ?_
            refine JL_passed rfl rfl rfl h131 ?_
            refine JL_q (wants_none rfl) rfl (ex_pick_false rfl h131 rfl) ?_
            refine JL_nil ?_
            refine N_then ?_
            refine J_if_false rfl rfl ?_
            refine J_skip ?_
            refine N_then ?_
            refine J_seq ?_
            refine J_region ?_
            refine JL_q (wants_none rfl) rfl (ex_move rfl) ?_
            refine JL_q (wants_none rfl) rfl (ex_move rfl) ?_
            refine JL_st (wants_none rfl) rfl (st_buildSlice (vs := [.int .i64 r1.Write]) ([r1.Write] : List Int) Tryd.underlying28 ti_2 zi_2 rfl rfl rfl (fun w hh => ⟨(Rd.mk_int _ _ _), trivial⟩)) (fun b160 => ?_)
            refine JL_bnd fun z161 hz162 => ?_
            refine JL_st (wants_none rfl) rfl (st_append 6 Tryd.underlying28 ti_2 zi_2 rfl bi_2 rfl rfl rfl rfl (fun w hh => hh.src_ow 0 rfl) hz162) (fun v163 => ?_)
            refine JL_q (wants_none rfl) rfl (ex_assign rfl) ?_
            refine JL_nil ?_
            refine N_then ?_
            refine J_ret ?_
            refine N_inlD1 hK129 rfl (rv_tmp rfl) 1 [2] rfl rfl ?_
            refine JD_bnd fun r164 hr165 => ?_
            refine JD_one (i := 12) (by kernel_rfl) ?_
            refine JO_call rfl (wants_none rfl) rfl Tryd.call55 rfl (Ca_of0 fun w hh => c_impl_nearest _ w (fun _ hk => hk.elim) _ _ (hh.ow0 5 rfl) _ hr165) (fun _ => ?_)
            refine JD_one (i := 13) (by kernel_rfl) ?_
            refine JO_inline h1_30 [2, 3, 4] [0] rfl rfl rfl rfl (wants_none rfl) rfl Tryd.call54 rfl Tryd.func54 rfl Tryd.ntmps54 rfl rfl (fun C167 K_ hK166 => ?_)
            refine J_seq ?_
            refine J_region ?_
            refine JL_q (wants_none rfl) rfl (ex_assign rfl) ?_
            refine JL_nil ?_
            refine N_then ?_
            refine J_seq ?_
            refine J_seq ?_
            refine J_region ?_
            refine JL_q (wants_none rfl) rfl (ex_move rfl) ?_
            refine JL_q (wants_none rfl) rfl (ex_eql rfl rfl) ?_
            refine JL_q (wants_none rfl) rfl (ex_move rfl) ?_
            refine JL_cond (fun h168 => ?_) (fun h168 => ?_)
            · refine JL_q (wants_some rfl rfl rfl h168) rfl (ex_move rfl) ?_
              refine JL_q (wants_some rfl rfl rfl h168) rfl (ex_len_ow 7 Tryd.underlying28 rfl rfl) ?_
              refine JL_q (wants_some rfl rfl rfl h168) rfl (ex_eql rfl rfl) ?_
              refine JL_q (wants_none rfl) rfl (ex_pick_true rfl h168 rfl) ?_
              refine JL_nil ?_
              refine N_then ?_
              refine J_if rfl (fun h169 => ?_) (fun h169 => ?_)
              · refine J_seq ?_
                refine J_region ?_
                refine JL_q (wants_none rfl) rfl (ex_move rfl) ?_
                refine JL_q (wants_none rfl) rfl (ex_assign rfl) ?_
                refine JL_nil ?_
                refine N_then ?_
                refine J_ret ?_
                refine N_then_ret ?_
                refine N_inlD1 hK166 rfl (rv_tmp rfl) 0 [3] rfl rfl ?_
                refine JD_take (i := 14) hp28 rfl (by kernel_rfl) (by kernel_rfl) (by kernel_rfl) (wants_none rfl) rfl (ex_nilCheck rfl) ?_
                refine JD_take (i := 15) hp28 rfl (by kernel_rfl) (by kernel_rfl) (by kernel_rfl) (wants_none rfl) rfl (ex_fieldAddr fi_79_3 rfl rfl) ?_
                refine JD_one (i := 16) (by kernel_rfl) ?_
                refine JO_sk rfl (wants_none rfl) (sk_store_bx' 5 ti_28 rfl rfl (fun w hh => (hh.cv_ow 7 rfl)) rfl rfl rfl rfl) (sub_bx 0 rfl) ?_
                refine JD_done (by kernel_rfl) ?_
                exact N_meet' v163 ⟨rfl, rfl, trivial⟩ [9, 4, 6, 7, 5, 3, 8] rfl rfl
              · refine J_skip ?_
                refine N_then ?_
                refine J_seq ?_
                refine J_region ?_
                refine JL_q (wants_none rfl) rfl (ex_move rfl) ?_
                refine JL_q (wants_none rfl) rfl (ex_move rfl) ?_
                refine JL_st (wants_none rfl) rfl (st_buildSlice (vs := [.int .i64 r164]) ([r164] : List Int) Tryd.underlying28 ti_2 zi_2 rfl rfl rfl (fun w hh => ⟨(Rd.mk_int _ _ _), trivial⟩)) (fun b170 => ?_)
                refine JL_bnd fun z171 hz172 => ?_
                refine JL_st (wants_none rfl) rfl (st_append 8 Tryd.underlying28 ti_2 zi_2 rfl bi_2 rfl rfl rfl rfl (fun w hh => hh.src_ow 0 rfl) hz172) (fun v173 => ?_)
                refine JL_q (wants_none rfl) rfl (ex_assign rfl) ?_
                refine JL_nil ?_
                refine N_then ?_
                refine J_ret ?_
                refine N_inlD1 hK166 rfl (rv_tmp rfl) 1 [4] rfl rfl ?_
                refine JD_take (i := 14) hp28 rfl (by kernel_rfl) (by kernel_rfl) (by kernel_rfl) (wants_none rfl) rfl (ex_nilCheck rfl) ?_
                refine JD_take (i := 15) hp28 rfl (by kernel_rfl) (by kernel_rfl) (by kernel_rfl) (wants_none rfl) rfl (ex_fieldAddr fi_79_3 rfl rfl) ?_
                refine JD_one (i := 16) (by kernel_rfl) ?_
                refine JO_sk rfl (wants_none rfl) (sk_store_bx' 6 ti_28 rfl rfl (fun w hh => (hh.cv_ow 8 rfl)) rfl rfl rfl rfl) (sub_bx 0 rfl) ?_
                refine JD_done (by kernel_rfl) ?_
                exact N_meet' v173 ⟨rfl, rfl, trivial⟩ [10, 5, 7, 8, 6, 4, 9] rfl rfl
            · refine JL_passed rfl rfl rfl h168 ?_
              refine JL_passed rfl rfl rfl h168 ?_
              refine JL_passed rfl rfl rfl h168 ?_
              refine JL_q (wants_none rfl) rfl (ex_pick_false rfl h168 rfl) ?_
              refine JL_nil ?_
              refine N_then ?_
              refine J_if_false rfl rfl ?_
              refine J_skip ?_
              refine N_then ?_
              refine J_seq ?_
              refine J_region ?_
              refine JL_q (wants_none rfl) rfl (ex_move rfl) ?_
              refine JL_q (wants_none rfl) rfl (ex_move rfl) ?_
              refine JL_st (wants_none rfl) rfl (st_buildSlice (vs := [.int .i64 r164]) ([r164] : List Int) Tryd.underlying28 ti_2 zi_2 rfl rfl rfl (fun w hh => ⟨(Rd.mk_int _ _ _), trivial⟩)) (fun b174 => ?_)
              refine JL_bnd fun z175 hz176 => ?_
              refine JL_st (wants_none rfl) rfl (st_append 8 Tryd.underlying28 ti_2 zi_2 rfl bi_2 rfl rfl rfl rfl (fun w hh => hh.src_ow 0 rfl) hz176) (fun v177 => ?_)
              refine JL_q (wants_none rfl) rfl (ex_assign rfl) ?_
              refine JL_nil ?_
              refine N_then ?_
              refine J_ret ?_
              refine N_inlD1 hK166 rfl (rv_tmp rfl) 1 [4] rfl rfl ?_
              refine JD_take (i := 14) hp28 rfl (by kernel_rfl) (by kernel_rfl) (by kernel_rfl) (wants_none rfl) rfl (ex_nilCheck rfl) ?_
              refine JD_take (i := 15) hp28 rfl (by kernel_rfl) (by kernel_rfl) (by kernel_rfl) (wants_none rfl) rfl (ex_fieldAddr fi_79_3 rfl rfl) ?_
              refine JD_one (i := 16) (by kernel_rfl) ?_
              refine JO_sk rfl (wants_none rfl) (sk_store_bx' 6 ti_28 rfl rfl (fun w hh => (hh.cv_ow 8 rfl)) rfl rfl rfl rfl) (sub_bx 0 rfl) ?_
              refine JD_done (by kernel_rfl) ?_
              exact N_meet' v177 ⟨rfl, rfl, trivial⟩ [10, 5, 7, 8, 6, 4, 9] rfl rfl
      · refine N_then ?_
        refine J_region ?_
        refine JL_q (wants_none rfl) rfl (ex_move rfl) ?_
        refine JL_q (wants_none rfl) rfl (ex_move rfl) ?_
        refine JL_q (wants_none rfl) rfl (ex_nilCheck rfl) ?_
        refine JL_q (wants_none rfl) rfl (ex_fieldAddr fi_79_2 rfl rfl) ?_
        refine JL_q (wants_none rfl) rfl (ex_load_bx 4 ti_28 rfl rfl rfl) ?_
        refine JL_inline (wants_none rfl) rfl Tryd.call53 rfl Tryd.func53 rfl Tryd.ntmps53 rfl rfl (fun K_ hK178 => ?_)
        refine J_seq ?_
        refine J_region ?_
        refine JL_q (wants_none rfl) rfl (ex_assign rfl) ?_
        refine JL_nil ?_
        refine N_then ?_
        refine J_seq ?_
        refine J_region ?_
        refine JL_q (wants_none rfl) rfl (ex_move rfl) ?_
        refine JL_q (wants_none rfl) rfl (ex_move rfl) ?_
        refine JL_q (wants_none rfl) rfl (ex_len_ow 2 Tryd.underlying28 rfl rfl) ?_
        refine JL_q (wants_none rfl) rfl (ex_sub rfl rfl) ?_
        refine JL_q (wants_none rfl) rfl (ex_max rfl rfl) ?_
        refine JL_bnd fun z179 hz180 => ?_
        refine JL_st (wants_none rfl) rfl (st_slice_own 2 Tryd.underlying28 ti_2 rfl rfl rfl hz180) (fun v181 => ?_)
        refine JL_q (wants_none rfl) rfl (ex_assign rfl) ?_
        refine JL_nil ?_
        refine N_then ?_
        refine J_ret ?_
        refine N_inl1 hK178 rfl (rv_tmp rfl) ?_
        refine JL_q (wants_none rfl) rfl (ex_nilCheck rfl) ?_
        refine JL_q (wants_none rfl) rfl (ex_fieldAddr fi_79_2 rfl rfl) ?_
        refine JL_sk (wants_none rfl) (sk_store_bx' 4 ti_28 rfl rfl (fun w hh => (hh.cv_ow 2 rfl)) rfl rfl rfl rfl) ?_
        refine JL_nil ?_
        exact N_meet' (v181, g27) ⟨rfl, rfl, trivial⟩ [0, 1, 2, 3, 4, 5, 6] rfl rfl
  · obtain ⟨g9_0, g9_1⟩ := g9
    refine N_then ?_
    refine J_seq ?_
    refine J_region ?_
    refine JL_q (wants_none rfl) rfl (ex_move rfl) ?_
    refine JL_q (wants_none rfl) rfl (ex_fieldAddr fi_82_2 rfl rfl) ?_
    refine JL_q (wants_none rfl) rfl (ex_load_bx 5 ti_2 rfl rfl rfl) ?_
    refine JL_q (wants_none rfl) rfl (ex_nilCheck rfl) ?_
    refine JL_q (wants_none rfl) rfl (ex_fieldAddr fi_79_1 rfl rfl) ?_
    refine JL_sk (wants_none rfl) (sk_store_bx' 4 ti_2 rfl rfl (fun w hh => cv_int) rfl rfl rfl rfl) ?_
    refine JL_nil ?_
    refine N_then ?_
    refine J_seq ?_
    refine J_region ?_
    refine JL_q (wants_none rfl) rfl (ex_move rfl) ?_
    refine JL_q (wants_none rfl) rfl (ex_nilCheck rfl) ?_
    refine JL_q (wants_none rfl) rfl (ex_fieldAddr fi_79_2 rfl rfl) ?_
    refine JL_q (wants_none rfl) rfl (ex_load_bx 4 ti_28 rfl rfl rfl) ?_
    refine JL_q (wants_none rfl) rfl (ex_len_ow 2 Tryd.underlying28 rfl rfl) ?_
    refine JL_q (wants_none rfl) rfl (ex_leq rfl rfl) ?_
    refine JL_q (wants_none rfl) rfl (ex_move rfl) ?_
    refine JL_cond (fun h182 => ?_) (fun h182 => ?_)
    · refine JL_q (wants_some rfl rfl rfl h182) rfl (ex_move rfl) ?_
      refine JL_q (wants_some rfl rfl rfl h182) rfl (ex_nilCheck rfl) ?_
      refine JL_q (wants_some rfl rfl rfl h182) rfl (ex_fieldAddr fi_79_3 rfl rfl) ?_
      refine JL_q (wants_some rfl rfl rfl h182) rfl (ex_load_bx 4 ti_28 rfl rfl rfl) ?_
      refine JL_q (wants_some rfl rfl rfl h182) rfl (ex_len_ow 3 Tryd.underlying28 rfl rfl) ?_
      refine JL_q (wants_some rfl rfl rfl h182) rfl (ex_leq rfl rfl) ?_
      refine JL_q (wants_none rfl) rfl (ex_pick_true rfl h182 rfl) ?_
      refine JL_q (wants_none rfl) rfl (ex_assign rfl) ?_
      refine JL_nil ?_
      refine N_then ?_
      refine J_ret ?_
      exact N_ret1 rfl (rv_tmp rfl) (fun w hh => ⟨(g9_0, g9_1), rfl, hh.sel [4, 2, 3, 6, 0] rfl⟩)
    · refine JL_passed rfl rfl rfl h182 ?_
      refine JL_passed rfl rfl rfl h182 ?_
      refine JL_passed rfl rfl rfl h182 ?_
      refine JL_passed rfl rfl rfl h182 ?_
      refine JL_passed rfl rfl rfl h182 ?_
      refine JL_passed rfl rfl rfl h182 ?_
      refine JL_q (wants_none rfl) rfl (ex_pick_false rfl h182 rfl) ?_
      refine JL_q (wants_none rfl) rfl (ex_assign rfl) ?_
      refine JL_nil ?_
      refine N_then ?_
      refine J_ret ?_
      exact N_ret1 rfl (rv_tmp rfl) (fun w hh => ⟨(g9_0, g9_1), rfl, hh.sel [4, 2, 3, 6, 0] rfl⟩)

set_option maxHeartbeats 40000000 in
theorem c_impl_runner_config (A : Nat → Prop) (w : World) (hA : ∀ k, A k → k < w.heap.size) (v0_ : Value) (p0 : Grunner) (hp0 : RdA A w.heap.size w v0_ p0) (r : GConfig) (hr : F_impl_runner_config p0 = some r) :
    Con Tryd.prog 19 [v0_] A w (fun x_ : Value × Value => .agg #[.int .i64 r.State, x_.1, x_.2]) (fun x_ => [.ow 2 x_.1 r.Left, .ow 2 x_.2 r.Right]) := by
  refine Con_of (v := fun (r : GConfig) (x_ : Value × Value) => .agg #[.int .i64 r.State, x_.1, x_.2]) (fs := fun r x_ => [.ow 2 x_.1 r.Left, .ow 2 x_.2 r.Right]) Tryd.func19 rfl Tryd.ntmps19 rfl ((SH.start hA).start_pa' rfl hp0) rfl ?_ hr
  unfold F_impl_runner_config
  refine J_seq ?_
  refine J_region ?_
  refine JL_st (wants_none rfl) rfl (st_alloc zi_35 rfl) (fun b1 => ?_)
  refine JL_nil ?_
  refine N_then ?_
  refine J_seq ?_
  refine J_draw [0] (by kernel_rfl) ?_
  refine JP_take (i := 0) [1] [0] rfl (by kernel_rfl) (by kernel_rfl) (by kernel_rfl) rfl rfl (wants_none rfl) rfl (ex_move rfl) ?_
  refine JP_take (i := 1) [1] [0] rfl (by kernel_rfl) (by kernel_rfl) (by kernel_rfl) rfl rfl (wants_none rfl) rfl (ex_nilCheck_pa 0 rfl rfl) ?_
  refine JP_sq (i := 2) [0] rfl (by kernel_rfl) (by kernel_rfl) (by kernel_rfl) rfl (wants_none rfl) rfl (sq_field_pa 1 (Grunner.at_state _) fi_79_1 rfl rfl rfl) (fun q2 => ?_)
  refine JP_sq (i := 3) [1] rfl (by kernel_rfl) (by kernel_rfl) (by kernel_rfl) rfl (wants_none rfl) rfl (sq_load_pa_o 0 (opens_int _) ti_2 rfl rfl) (fun _ => ?_)
  refine JP_take (i := 4) [0, 2] [1] rfl (by kernel_rfl) (by kernel_rfl) (by kernel_rfl) rfl rfl (wants_none rfl) rfl (ex_move rfl) ?_
  refine JP_take (i := 5) [0, 2] [1] rfl (by kernel_rfl) (by kernel_rfl) (by kernel_rfl) rfl rfl (wants_none rfl) rfl (ex_nilCheck_pa 1 rfl rfl) ?_
  refine JP_sq (i := 6) [1] rfl (by kernel_rfl) (by kernel_rfl) (by kernel_rfl) rfl (wants_none rfl) rfl (sq_field_pa 2 (Grunner.at_left _) fi_79_2 rfl rfl rfl) (fun q4 => ?_)
  refine JP_sq (i := 7) [2] rfl (by kernel_rfl) (by kernel_rfl) (by kernel_rfl) rfl (wants_none rfl) rfl (sq_load_pa_o 0 (opens_sl _) ti_28 rfl rfl) (fun v5 => ?_)
  refine JP_take (i := 9) [0, 1, 2, 4] [3] rfl (by kernel_rfl) (by kernel_rfl) (by kernel_rfl) rfl rfl (wants_none rfl) rfl (ex_move rfl) ?_
  refine JP_take (i := 10) [0, 1, 2, 4] [3] rfl (by kernel_rfl) (by kernel_rfl) (by kernel_rfl) rfl rfl (wants_none rfl) rfl (ex_nilCheck_pa 3 rfl rfl) ?_
  refine JP_sq (i := 11) [3] rfl (by kernel_rfl) (by kernel_rfl) (by kernel_rfl) rfl (wants_none rfl) rfl (sq_field_pa 4 (Grunner.at_right _) fi_79_3 rfl rfl rfl) (fun q6 => ?_)
  refine JP_sq (i := 12) [4] rfl (by kernel_rfl) (by kernel_rfl) (by kernel_rfl) rfl (wants_none rfl) rfl (sq_load_pa_o 0 (opens_sl _) ti_28 rfl rfl) (fun v7 => ?_)
  refine JP_go [0, 1, 2, 3, 4, 6] [5] rfl rfl rfl (fun w9 h1_10 hp8 => ?_)
  refine JD_bnd fun r11 hr12 => ?_
  refine JD_one (i := 8) (by kernel_rfl) ?_
  refine JO_call rfl (wants_none rfl) rfl Tryd.call39 rfl (Ca_self (fun _ => rfl) fun w hh => c_impl_reversed _ w (fun _ hk => hk.elim) _ _ (hh.rd0 2 rfl) _ hr12) (fun x13 => ?_)
  refine JD_bnd fun r14 hr15 => ?_
  refine JD_one (i := 13) (by kernel_rfl) ?_
  refine JO_call rfl (wants_none rfl) rfl Tryd.call39 rfl (Ca_self (fun _ => rfl) fun w hh => c_impl_reversed _ w (fun _ hk => hk.elim) _ _ (hh.rd0 1 rfl) _ hr15) (fun x16 => ?_)
  refine JD_one (i := 14) (by kernel_rfl) ?_
  refine JO_q rfl (wants_none rfl) rfl (ex_build si_35 rfl (.cons fi_35_0 rfl rfl (.cons fi_35_1 rfl rfl (.cons fi_35_2 rfl rfl .nil))) (fun w hh => ⟨cv_int, (hh.cv_ow 1 rfl), (hh.cv_ow 0 rfl), trivial⟩)) ?_
  refine JD_one (i := 15) (by kernel_rfl) ?_
  refine JO_sk rfl (wants_none rfl) (sk_store_bx' 7 ti_35 rfl rfl (fun w hh => (cv_aggs ⟨cv_int, (hh.cv_ow 1 rfl), (hh.cv_ow 0 rfl), trivial⟩)) rfl rfl rfl rfl) (sub_bx 0 rfl) ?_
  refine JD_done (by kernel_rfl) ?_
  refine N_then ?_
  refine J_ret ?_
  exact N_ret1 rfl (rv_cell 7 rfl rfl ti_35 rfl) (fun w hh => ⟨(x13, x16), rfl, hh.sel [1, 0] rfl⟩)

set_option maxHeartbeats 40000000 in
theorem c_impl_digitsText (A : Nat → Prop) (w : World) (hA : ∀ k, A k → k < w.heap.size) (v0_ : Value) (p0 : (List Int)) (hp0 : Rd A w v0_ p0) (r : ByteArray) (hr : F_impl_digitsText p0 = some r) :
    Con Tryd.prog 38 [v0_] A w (fun x_ : Unit => .string r) (fun x_ => []) := by
  refine Con_of (v := fun (r : ByteArray) (x_ : Unit) => .string r) (fs := fun r x_ => []) Tryd.func38 rfl Tryd.ntmps38 rfl ((SH.start hA).start_rd rfl hp0) rfl ?_ hr
  unfold F_impl_digitsText
  refine J_seq ?_
  refine J_region ?_
  refine JL_q (wants_none rfl) rfl (ex_assign rfl) ?_
  refine JL_nil ?_
  refine N_then ?_
  refine J_seq ?_
  refine J_region ?_
  refine JL_st (wants_none rfl) rfl (st_alloc zi_96 rfl) (fun b1 => ?_)
  refine JL_nil ?_
  refine N_then ?_
  refine J_seq ?_
  refine J_seq ?_
  refine J_region ?_
  refine JL_q (wants_none rfl) rfl (ex_move rfl) ?_
  refine JL_q (wants_none rfl) rfl (ex_len_rd 1 Tryd.underlying28 rfl rfl) ?_
  refine JL_q (wants_none rfl) rfl (ex_move rfl) ?_
  refine JL_nil ?_
  refine N_then ?_
  refine J_ctx (fun w hh => SH.ow_nil (α := (Ik .u8)) 5 hh) ?_
  refine J_loop' (S := Bool × (List (Ik .u8)) × Int) (G := Value) (F_impl_digitsText_L1 p0) (fun s2 g3 => [(3, .pointer (some ⟨b1, 0, none⟩)), (6, v0_), (7, .int .i64 (p0.length : Int)), (8, .int .i64 s2.2.2)]) (fun s2 g3 => [.ow 5 g3 s2.2.1, .bx b1 96 [optP s2.1 ⟨b1, 0, none⟩, g3], .rd v0_ p0]) (true, ([] : (List (Ik .u8))), 0) (.slice none 0 0 : Value) ⟨rfl, rfl, rfl, rfl, trivial⟩ [0, 1, 2] rfl rfl (fun s2 g3 => ?_) (fun s2 g3 => ?_)
  · unfold F_impl_digitsText_L1
    refine J_seq ?_
    refine J_region ?_
    refine JL_q (wants_none rfl) rfl (ex_lss rfl rfl) ?_
    refine JL_nil ?_
    refine N_then ?_
    refine J_seq ?_
    refine J_if rfl (fun h4 => ?_) (fun h4 => ?_)
    · refine J_skip ?_
      refine N_then ?_
      refine J_seq ?_
      refine J_block ?_
      refine J_seq ?_
      refine J_region ?_
      refine JL_bnd fun y5 hy6 => ?_
      refine JL_st (wants_none rfl) rfl (st_index 2 Tryd.underlying28 ti_2 rfl rfl rfl hy6) (fun q7 => ?_)
      refine JL_st (wants_none rfl) rfl (st_load_pt_o 0 (opens_int _) ti_2 rfl rfl) (fun _ => ?_)
      refine JL_q (wants_none rfl) rfl (ex_assign rfl) ?_
      refine JL_nil ?_
      refine N_then ?_
      refine J_region ?_
      refine JL_q (wants_none rfl) rfl (ex_move rfl) ?_
      refine JL_q (wants_none rfl) rfl (ex_conv_ik Tryd.underlying2 Tryd.underlying21 rfl) ?_
      refine JL_q (wants_none rfl) rfl (ex_addk rfl rfl) ?_
      refine JL_inline (wants_none rfl) rfl Tryd.call56 rfl Tryd.func56 rfl Tryd.ntmps56 rfl rfl (fun K_ hK9 => ?_)
      refine J_seq ?_
      refine J_region ?_
      refine JL_q (wants_none rfl) rfl (ex_assign rfl) ?_
      refine JL_q (wants_none rfl) rfl (ex_assign rfl) ?_
      refine JL_nil ?_
      refine N_then ?_
      refine J_seq ?_
      refine J_region ?_
      refine JL_q (wants_none rfl) rfl (ex_move rfl) ?_
      refine JL_inline (wants_none rfl) rfl Tryd.call73 rfl Tryd.func73 rfl Tryd.ntmps73 rfl rfl (fun K_ hK10 => ?_)
      refine J_seq ?_
      refine J_region ?_
      refine JL_q (wants_none rfl) rfl (ex_move rfl) ?_
      refine JL_q (wants_none rfl) rfl (ex_nilCheck rfl) ?_
      refine JL_q (wants_none rfl) rfl (ex_fieldAddr fi_96_0 rfl rfl) ?_
      refine JL_q (wants_none rfl) rfl (ex_load_bx 2 ti_94 rfl rfl rfl) ?_
      refine JL_q (wants_none rfl) rfl (ex_eq_opt Tryd.underlying94 rfl rfl) ?_
      refine JL_nil ?_
      refine N_then ?_
      refine J_if rfl (fun h11 => ?_) (fun h11 => ?_)
      · refine J_region ?_
        refine JL_q (wants_none rfl) rfl (ex_move rfl) ?_
        refine JL_q (wants_none rfl) rfl (ex_move rfl) ?_
        refine JL_q (wants_none rfl) rfl (ex_to_unsafe 2 Tryd.underlying94 Tryd.underlying123 ti_96 rfl rfl rfl) ?_
        refine JL_q (wants_none rfl) rfl (ex_extern (vs := [_]) (ext_86 _) rfl) ?_
        refine JL_q (wants_none rfl) rfl (ex_from_unsafe 2 Tryd.underlying123 Tryd.underlying94 ti_96 rfl rfl (by kernel_rfl)) ?_
        refine JL_q (wants_none rfl) rfl (ex_nilCheck rfl) ?_
        refine JL_q (wants_none rfl) rfl (ex_fieldAddr fi_96_0 rfl rfl) ?_
        refine JL_sk (wants_none rfl) (sk_store_bx' 2 ti_94 rfl rfl (fun w hh => cv_ptr) rfl rfl rfl rfl) ?_
        refine JL_nil ?_
        refine N_inl0 (.inr rfl) hK10 rfl ?_
        refine JL_nil ?_
        refine N_then ?_
        refine J_seq ?_
        refine J_region ?_
        refine JL_q (wants_none rfl) rfl (ex_move rfl) ?_
        refine JL_q (wants_none rfl) rfl (ex_nilCheck rfl) ?_
        refine JL_q (wants_none rfl) rfl (ex_fieldAddr fi_96_1 rfl rfl) ?_
        refine JL_q (wants_none rfl) rfl (ex_load_bx 2 ti_22 rfl rfl rfl) ?_
        refine JL_q (wants_none rfl) rfl (ex_len_ow 1 Tryd.underlying22 rfl rfl) ?_
        refine JL_q (wants_none rfl) rfl (ex_assign rfl) ?_
        refine JL_nil ?_
        refine N_then ?_
        refine J_seq ?_
        refine J_region ?_
        refine JL_q (wants_none rfl) rfl (ex_move rfl) ?_
        refine JL_q (wants_none rfl) rfl (ex_move rfl) ?_
        refine JL_q (wants_none rfl) rfl (ex_nilCheck rfl) ?_
        refine JL_q (wants_none rfl) rfl (ex_fieldAddr fi_96_1 rfl rfl) ?_
        refine JL_q (wants_none rfl) rfl (ex_load_bx 2 ti_22 rfl rfl rfl) ?_
        refine JL_q (wants_none rfl) rfl (ex_move rfl) ?_
        refine JL_inline (wants_none rfl) rfl Tryd.call74 rfl Tryd.func74 rfl Tryd.ntmps74 rfl rfl (fun K_ hK12 => ?_)
        refine J_seq ?_
        refine J_region ?_
        refine JL_q (wants_none rfl) rfl (ex_assign rfl) ?_
        refine JL_nil ?_
        refine N_then ?_
        refine J_seq ?_
        refine J_seq ?_
        refine J_region ?_
        refine JL_q (wants_none rfl) rfl (ex_move rfl) ?_
        refine JL_q (wants_none rfl) rfl (ex_conv_ik Tryd.underlying21 Tryd.underlying125 rfl) ?_
        refine JL_q (wants_none rfl) rfl (ex_leq rfl rfl) ?_
        refine JL_nil ?_
        refine N_then ?_
        refine J_if rfl (fun h13 => ?_) (fun h13 => ?_)
        · refine J_seq ?_
          refine J_region ?_
          refine JL_q (wants_none rfl) rfl (ex_move rfl) ?_
          refine JL_q (wants_none rfl) rfl (ex_move rfl) ?_
          refine JL_q (wants_none rfl) rfl (ex_conv_ik Tryd.underlying21 Tryd.underlying5 rfl) ?_
          refine JL_st (wants_none rfl) rfl (st_buildSlice (vs := [.int .u8 (wk .u8 (wk .i32 (48 + (wk .i32 y5))))]) ([(⟨(wk .u8 (wk .i32 (48 + (wk .i32 y5))))⟩ : Ik .u8)] : List (Ik .u8)) Tryd.underlying22 ti_5 zi_5 rfl rfl rfl (fun w hh => ⟨(Rd.mk_ik _ _ _), trivial⟩)) (fun b14 => ?_)
          refine JL_bnd fun z15 hz16 => ?_
          refine JL_st (wants_none rfl) rfl (st_append 2 Tryd.underlying22 ti_5 zi_5 rfl bi_5 rfl rfl rfl rfl (fun w hh => hh.src_ow 0 rfl) hz16) (fun v17 => ?_)
          refine JL_q (wants_none rfl) rfl (ex_assign rfl) ?_
          refine JL_nil ?_
          refine N_then ?_
          refine J_ret ?_
          refine N_then_ret ?_
          refine N_inl1 hK12 rfl (rv_tmp rfl) ?_
          refine JL_q (wants_none rfl) rfl (ex_nilCheck rfl) ?_
          refine JL_q (wants_none rfl) rfl (ex_fieldAddr fi_96_1 rfl rfl) ?_
          refine JL_sk (wants_none rfl) (sk_store_bx' 3 ti_22 rfl rfl (fun w hh => (hh.cv_ow 2 rfl)) rfl rfl rfl rfl) ?_
          refine JL_nil ?_
          refine N_then ?_
          refine J_seq ?_
          refine J_region ?_
          refine JL_q (wants_none rfl) rfl (ex_move rfl) ?_
          refine JL_q (wants_none rfl) rfl (ex_nilCheck rfl) ?_
          refine JL_q (wants_none rfl) rfl (ex_fieldAddr fi_96_1 rfl rfl) ?_
          refine JL_q (wants_none rfl) rfl (ex_load_bx 3 ti_22 rfl rfl rfl) ?_
          refine JL_q (wants_none rfl) rfl (ex_len_ow 2 Tryd.underlying22 rfl rfl) ?_
          refine JL_q (wants_none rfl) rfl (ex_move rfl) ?_
          refine JL_q (wants_none rfl) rfl (ex_sub rfl rfl) ?_
          refine JL_q (wants_none rfl) rfl (ex_assign rfl) ?_
          refine JL_q (wants_none rfl) rfl (ex_assign rfl) ?_
          refine JL_nil ?_
          refine N_then ?_
          refine J_ret ?_
          refine N_inl2 hK9 rfl (rv_tmp rfl) (rv_tmp rfl) ?_
          refine JL_nil ?_
          refine N_block ?_
          refine N_then ?_
          refine J_region ?_
          refine JL_q (wants_none rfl) rfl (ex_add rfl rfl) ?_
          refine JL_q (wants_none rfl) rfl (ex_move rfl) ?_
          refine JL_nil ?_
          exact N_next' v17 ⟨rfl, rfl, rfl, rfl, trivial⟩ [2, 3, 4] rfl rfl
        · refine J_skip ?_
          refine N_then ?_
          refine J_seq ?_
          refine J_region ?_
          refine JL_q (wants_none rfl) rfl (ex_move rfl) ?_
          refine JL_q (wants_none rfl) rfl (ex_move rfl) ?_
          exact JL_none
      · refine J_seq ?_
        refine J_region ?_
        refine JL_q (wants_none rfl) rfl (ex_move rfl) ?_
        refine JL_q (wants_none rfl) rfl (ex_nilCheck rfl) ?_
        refine JL_q (wants_none rfl) rfl (ex_fieldAddr fi_96_0 rfl rfl) ?_
        refine JL_q (wants_none rfl) rfl (ex_load_bx 2 ti_94 rfl rfl rfl) ?_
        refine JL_q (wants_none rfl) rfl (ex_move rfl) ?_
        refine JL_q (wants_none rfl) rfl (ex_ne_opt Tryd.underlying94 ti_96 h11 rfl rfl) ?_
        refine JL_nil ?_
        refine N_then ?_
        refine J_if_false rfl rfl ?_
        refine J_skip ?_
        refine N_inl0 (.inr rfl) hK10 rfl ?_
        refine JL_nil ?_
        refine N_then ?_
        refine J_seq ?_
        refine J_region ?_
        refine JL_q (wants_none rfl) rfl (ex_move rfl) ?_
        refine JL_q (wants_none rfl) rfl (ex_nilCheck rfl) ?_
        refine JL_q (wants_none rfl) rfl (ex_fieldAddr fi_96_1 rfl rfl) ?_
        refine JL_q (wants_none rfl) rfl (ex_load_bx 2 ti_22 rfl rfl rfl) ?_
        refine JL_q (wants_none rfl) rfl (ex_len_ow 1 Tryd.underlying22 rfl rfl) ?_
        refine JL_q (wants_none rfl) rfl (ex_assign rfl) ?_
        refine JL_nil ?_
        refine N_then ?_
        refine J_seq ?_
        refine J_region ?_
        refine JL_q (wants_none rfl) rfl (ex_move rfl) ?_
        refine JL_q (wants_none rfl) rfl (ex_move rfl) ?_
        refine JL_q (wants_none rfl) rfl (ex_nilCheck rfl) ?_
        refine JL_q (wants_none rfl) rfl (ex_fieldAddr fi_96_1 rfl rfl) ?_
        refine JL_q (wants_none rfl) rfl (ex_load_bx 2 ti_22 rfl rfl rfl) ?_
        refine JL_q (wants_none rfl) rfl (ex_move rfl) ?_
        refine JL_inline (wants_none rfl) rfl Tryd.call74 rfl Tryd.func74 rfl Tryd.ntmps74 rfl rfl (fun K_ hK18 => ?_)
        refine J_seq ?_
        refine J_region ?_
        refine JL_q (wants_none rfl) rfl (ex_assign rfl) ?_
        refine JL_nil ?_
        refine N_then ?_
        refine J_seq ?_
        refine J_seq ?_
        refine J_region ?_
        refine JL_q (wants_none rfl) rfl (ex_move rfl) ?_
        refine JL_q (wants_none rfl) rfl (ex_conv_ik Tryd.underlying21 Tryd.underlying125 rfl) ?_
        refine JL_q (wants_none rfl) rfl (ex_leq rfl rfl) ?_
        refine JL_nil ?_
        refine N_then ?_
        refine J_if rfl (fun h19 => ?_) (fun h19 => ?_)
        · refine J_seq ?_
          refine J_region ?_
          refine JL_q (wants_none rfl) rfl (ex_move rfl) ?_
          refine JL_q (wants_none rfl) rfl (ex_move rfl) ?_
          refine JL_q (wants_none rfl) rfl (ex_conv_ik Tryd.underlying21 Tryd.underlying5 rfl) ?_
          refine JL_st (wants_none rfl) rfl (st_buildSlice (vs := [.int .u8 (wk .u8 (wk .i32 (48 + (wk .i32 y5))))]) ([(⟨(wk .u8 (wk .i32 (48 + (wk .i32 y5))))⟩ : Ik .u8)] : List (Ik .u8)) Tryd.underlying22 ti_5 zi_5 rfl rfl rfl (fun w hh => ⟨(Rd.mk_ik _ _ _), trivial⟩)) (fun b20 => ?_)
          refine JL_bnd fun z21 hz22 => ?_
          refine JL_st (wants_none rfl) rfl (st_append 2 Tryd.underlying22 ti_5 zi_5 rfl bi_5 rfl rfl rfl rfl (fun w hh => hh.src_ow 0 rfl) hz22) (fun v23 => ?_)
          refine JL_q (wants_none rfl) rfl (ex_assign rfl) ?_
          refine JL_nil ?_
          refine N_then ?_
          refine J_ret ?_
          refine N_then_ret ?_
          refine N_inl1 hK18 rfl (rv_tmp rfl) ?_
          refine JL_q (wants_none rfl) rfl (ex_nilCheck rfl) ?_
          refine JL_q (wants_none rfl) rfl (ex_fieldAddr fi_96_1 rfl rfl) ?_
          refine JL_sk (wants_none rfl) (sk_store_bx' 3 ti_22 rfl rfl (fun w hh => (hh.cv_ow 2 rfl)) rfl rfl rfl rfl) ?_
          refine JL_nil ?_
          refine N_then ?_
          refine J_seq ?_
          refine J_region ?_
          refine JL_q (wants_none rfl) rfl (ex_move rfl) ?_
          refine JL_q (wants_none rfl) rfl (ex_nilCheck rfl) ?_
          refine JL_q (wants_none rfl) rfl (ex_fieldAddr fi_96_1 rfl rfl) ?_
          refine JL_q (wants_none rfl) rfl (ex_load_bx 3 ti_22 rfl rfl rfl) ?_
          refine JL_q (wants_none rfl) rfl (ex_len_ow 2 Tryd.underlying22 rfl rfl) ?_
          refine JL_q (wants_none rfl) rfl (ex_move rfl) ?_
          refine JL_q (wants_none rfl) rfl (ex_sub rfl rfl) ?_
          refine JL_q (wants_none rfl) rfl (ex_assign rfl) ?_
          refine JL_q (wants_none rfl) rfl (ex_assign rfl) ?_
          refine JL_nil ?_
          refine N_then ?_
          refine J_ret ?_
          refine N_inl2 hK9 rfl (rv_tmp rfl) (rv_tmp rfl) ?_
          refine JL_nil ?_
          refine N_block ?_
          refine N_then ?_
          refine J_region ?_
          refine JL_q (wants_none rfl) rfl (ex_add rfl rfl) ?_
          refine JL_q (wants_none rfl) rfl (ex_move rfl) ?_
          refine JL_nil ?_
          exact N_next' v23 ⟨rfl, rfl, rfl, rfl, trivial⟩ [2, 3, 4] rfl rfl
        · refine J_skip ?_
          refine N_then ?_
          refine J_seq ?_
          refine J_region ?_
          refine JL_q (wants_none rfl) rfl (ex_move rfl) ?_
          refine JL_q (wants_none rfl) rfl (ex_move rfl) ?_
          exact JL_none
    · refine J_exit ?_
      refine N_then_exit ?_
      exact N_break' g3 ⟨rfl, rfl, rfl, rfl, trivial⟩ [0, 1, 2] rfl rfl
  · refine N_then ?_
    refine J_seq ?_
    refine J_region ?_
    refine JL_inline (wants_none rfl) rfl Tryd.call57 rfl Tryd.func57 rfl Tryd.ntmps57 rfl rfl (fun K_ hK24 => ?_)
    refine J_seq ?_
    refine J_region ?_
    refine JL_q (wants_none rfl) rfl (ex_assign rfl) ?_
    refine JL_nil ?_
    refine N_then ?_
    refine J_seq ?_
    refine J_draw [0] (by kernel_rfl) ?_
    refine JP_take (i := 0) [1, 2] [0] rfl (by kernel_rfl) (by kernel_rfl) (by kernel_rfl) rfl rfl (wants_none rfl) rfl (ex_move rfl) ?_
    refine JP_take (i := 1) [1, 2] [0] rfl (by kernel_rfl) (by kernel_rfl) (by kernel_rfl) rfl rfl (wants_none rfl) rfl (ex_nilCheck rfl) ?_
    refine JP_take (i := 2) [1, 2] [0] rfl (by kernel_rfl) (by kernel_rfl) (by kernel_rfl) rfl rfl (wants_none rfl) rfl (ex_fieldAddr fi_96_1 rfl rfl) ?_
    refine JP_take (i := 3) [1, 2] [0] rfl (by kernel_rfl) (by kernel_rfl) (by kernel_rfl) rfl rfl (wants_none rfl) rfl (ex_load_bx 0 ti_22 rfl rfl rfl) ?_
    refine JP_take (i := 5) [1, 2] [0] rfl (by kernel_rfl) (by kernel_rfl) (by kernel_rfl) rfl rfl (wants_none rfl) rfl (ex_move rfl) ?_
    refine JP_take (i := 6) [1, 2] [0] rfl (by kernel_rfl) (by kernel_rfl) (by kernel_rfl) rfl rfl (wants_none rfl) rfl (ex_nilCheck rfl) ?_
    refine JP_take (i := 7) [1, 2] [0] rfl (by kernel_rfl) (by kernel_rfl) (by kernel_rfl) rfl rfl (wants_none rfl) rfl (ex_fieldAddr fi_96_1 rfl rfl) ?_
    refine JP_take (i := 8) [1, 2] [0] rfl (by kernel_rfl) (by kernel_rfl) (by kernel_rfl) rfl rfl (wants_none rfl) rfl (ex_load_bx 0 ti_22 rfl rfl rfl) ?_
    refine JP_go [1, 2] [0] rfl rfl rfl (fun w26 h1_27 hp25 => ?_)
    refine JD_two (i := 4) (j := 9) (by kernel_rfl) ?_ ?_
    · refine JO_st rfl (wants_none rfl) rfl (st_sliceData (t := 22) 0 Tryd.underlying116 rfl rfl) (fun _ hk => nomatch hk) (fun u28 => ?_)
      refine JD_one (i := 9) (by kernel_rfl) ?_
      refine JO_q rfl (wants_none rfl) rfl (ex_len_ow 1 Tryd.underlying22 rfl rfl) ?_
      refine JD_one (i := 10) (by kernel_rfl) ?_
      refine JO_st rfl (wants_none rfl) rfl (st_uString 1 0 Tryd.underlying116 (by kernel_rfl) rfl rfl rfl rfl) (sub_ow 0 rfl) (fun _ => ?_)
      refine JD_take (i := 11) hp25 rfl (by kernel_rfl) (by kernel_rfl) (by kernel_rfl) (wants_none rfl) rfl (ex_assign rfl) ?_
      refine JD_done (by kernel_rfl) ?_
      refine N_then ?_
      refine J_ret ?_
      refine N_inl1 hK24 rfl (rv_tmp rfl) ?_
      refine JL_q (wants_none rfl) rfl (ex_assign rfl) ?_
      refine JL_nil ?_
      refine N_then ?_
      refine J_ret ?_
      exact N_ret1 rfl (rv_tmp rfl) (fun w hh => ⟨(), rfl, hh.sel [] rfl⟩)
    · refine JO_q rfl (wants_none rfl) rfl (ex_len_ow 0 Tryd.underlying22 rfl rfl) ?_
      refine JD_one (i := 4) (by kernel_rfl) ?_
      refine JO_st rfl (wants_none rfl) rfl (st_sliceData (t := 22) 0 Tryd.underlying116 rfl rfl) (fun _ hk => nomatch hk) (fun u29 => ?_)
      refine JD_one (i := 10) (by kernel_rfl) ?_
      refine JO_st rfl (wants_none rfl) rfl (st_uString 1 0 Tryd.underlying116 (by kernel_rfl) rfl rfl rfl rfl) (sub_ow 0 rfl) (fun _ => ?_)
      refine JD_take (i := 11) hp25 rfl (by kernel_rfl) (by kernel_rfl) (by kernel_rfl) (wants_none rfl) rfl (ex_assign rfl) ?_
      refine JD_done (by kernel_rfl) ?_
      refine N_then ?_
      refine J_ret ?_
      refine N_inl1 hK24 rfl (rv_tmp rfl) ?_
      refine JL_q (wants_none rfl) rfl (ex_assign rfl) ?_
      refine JL_nil ?_
      refine N_then ?_
      refine J_ret ?_
      exact N_ret1 rfl (rv_tmp rfl) (fun w hh => ⟨(), rfl, hh.sel [] rfl⟩)

set_option maxHeartbeats 40000000 in
theorem c_internal_strconv_small (A : Nat → Prop) (w : World) (hA : ∀ k, A k → k < w.heap.size) (p0 : Int) (r : ByteArray) (hr : F_internal_strconv_small p0 = some r) :
    Con Tryd.prog 88 [.int .i64 p0] A w (fun x_ : Unit => .string r) (fun x_ => []) := by
  refine Con_of (v := fun (r : ByteArray) (x_ : Unit) => .string r) (fs := fun r x_ => []) Tryd.func88 rfl Tryd.ntmps88 rfl (SH.start hA) rfl ?_ hr
  unfold F_internal_strconv_small
  refine J_seq ?_
  refine J_region ?_
  refine JL_q (wants_none rfl) rfl (ex_assign rfl) ?_
  refine JL_nil ?_
  refine N_then ?_
  refine J_seq ?_
  refine J_seq ?_
  refine J_region ?_
  refine JL_q (wants_none rfl) rfl (ex_move rfl) ?_
  refine JL_q (wants_none rfl) rfl (ex_lss rfl rfl) ?_
  refine JL_nil ?_
  refine N_then ?_
  refine J_if rfl (fun h1 => ?_) (fun h1 => ?_)
  · refine J_seq ?_
    refine J_region ?_
    refine JL_q (wants_none rfl) rfl (ex_move rfl) ?_
    refine JL_q (wants_none rfl) rfl (ex_move rfl) ?_
    refine JL_q (wants_none rfl) rfl (ex_add rfl rfl) ?_
    refine JL_bnd fun z2 hz3 => ?_
    refine JL_q (wants_none rfl) rfl (ex_slice_str Tryd.underlying9 rfl rfl rfl hz3) ?_
    refine JL_q (wants_none rfl) rfl (ex_assign rfl) ?_
    refine JL_nil ?_
    refine N_then ?_
    refine J_ret ?_
    refine N_then_ret ?_
    exact N_ret1 rfl (rv_tmp rfl) (fun w hh => ⟨(), rfl, hh.sel [] rfl⟩)
  · refine J_skip ?_
    refine N_then ?_
    refine J_seq ?_
    refine J_region ?_
    refine JL_q (wants_none rfl) rfl (ex_move rfl) ?_
    refine JL_q (wants_none rfl) rfl (ex_mul rfl rfl) ?_
    refine JL_q (wants_none rfl) rfl (ex_move rfl) ?_
    refine JL_q (wants_none rfl) rfl (ex_mul rfl rfl) ?_
    refine JL_q (wants_none rfl) rfl (ex_add rfl rfl) ?_
    refine JL_bnd fun z4 hz5 => ?_
    refine JL_q (wants_none rfl) rfl (ex_slice_str Tryd.underlying9 rfl rfl rfl hz5) ?_
    refine JL_q (wants_none rfl) rfl (ex_assign rfl) ?_
    refine JL_nil ?_
    refine N_then ?_
    refine J_ret ?_
    exact N_ret1 rfl (rv_tmp rfl) (fun w hh => ⟨(), rfl, hh.sel [] rfl⟩)

set_option maxHeartbeats 40000000 in
theorem c_math_bits_Len64 (A : Nat → Prop) (w : World) (hA : ∀ k, A k → k < w.heap.size) (p0 : (Ik .u64)) (r : Int) (hr : F_math_bits_Len64 p0 = some r) :
    Con Tryd.prog 95 [.int .u64 p0.val] A w (fun x_ : Unit => .int .i64 r) (fun x_ => []) := by
  refine Con_of (v := fun (r : Int) (x_ : Unit) => .int .i64 r) (fs := fun r x_ => []) Tryd.func95 rfl Tryd.ntmps95 rfl (SH.start hA) rfl ?_ hr
  unfold F_math_bits_Len64
  refine J_seq ?_
  refine J_region ?_
  refine JL_q (wants_none rfl) rfl (ex_assign rfl) ?_
  refine JL_nil ?_
  refine N_then ?_
  refine J_seq ?_
  refine J_cut' (S' := (Ik .u64) × Int) (G' := Unit) (fun s1 _ => [(0, .int .u64 s1.1.val), (2, .int .i64 s1.2)]) (fun s1 _ => []) ?_ (fun s1 g2 => ?_)
  · refine J_seq ?_
    refine J_region ?_
    refine JL_q (wants_none rfl) rfl (ex_move rfl) ?_
    refine JL_q (wants_none rfl) rfl (ex_geq rfl rfl) ?_
    refine JL_nil ?_
    refine N_then ?_
    refine J_if rfl (fun h3 => ?_) (fun h3 => ?_)
    · refine J_seq ?_
      refine J_region ?_
      refine JL_q (wants_none rfl) rfl (ex_move rfl) ?_
      refine JL_q (wants_none rfl) rfl (ex_shrk rfl rfl (by decide)) ?_
      refine JL_q (wants_none rfl) rfl (ex_assign rfl) ?_
      refine JL_nil ?_
      refine N_then ?_
      refine J_region ?_
      refine JL_q (wants_none rfl) rfl (ex_assign rfl) ?_
      refine JL_nil ?_
      exact N_meet' () ⟨rfl, rfl, trivial⟩ [] rfl rfl
    · refine J_skip ?_
      exact N_meet' () ⟨rfl, rfl, trivial⟩ [] rfl rfl
  · refine N_then ?_
    refine J_seq ?_
    refine J_cut' (S' := (Ik .u64) × Int) (G' := Unit) (fun s4 _ => [(0, .int .u64 s4.1.val), (2, .int .i64 s4.2)]) (fun s4 _ => []) ?_ (fun s4 g5 => ?_)
    · refine J_seq ?_
      refine J_region ?_
      refine JL_q (wants_none rfl) rfl (ex_move rfl) ?_
      refine JL_q (wants_none rfl) rfl (ex_geq rfl rfl) ?_
      refine JL_nil ?_
      refine N_then ?_
      refine J_if rfl (fun h6 => ?_) (fun h6 => ?_)
      · refine J_seq ?_
        refine J_region ?_
        refine JL_q (wants_none rfl) rfl (ex_move rfl) ?_
        refine JL_q (wants_none rfl) rfl (ex_shrk rfl rfl (by decide)) ?_
        refine JL_q (wants_none rfl) rfl (ex_assign rfl) ?_
        refine JL_nil ?_
        refine N_then ?_
        refine J_region ?_
        refine JL_q (wants_none rfl) rfl (ex_move rfl) ?_
        refine JL_q (wants_none rfl) rfl (ex_add rfl rfl) ?_
        refine JL_q (wants_none rfl) rfl (ex_assign rfl) ?_
        refine JL_nil ?_
        exact N_meet' () ⟨rfl, rfl, trivial⟩ [] rfl rfl
      · refine J_skip ?_
        exact N_meet' () ⟨rfl, rfl, trivial⟩ [] rfl rfl
    · refine N_then ?_
      refine J_seq ?_
      refine J_seq ?_
      refine J_region ?_
      refine JL_q (wants_none rfl) rfl (ex_move rfl) ?_
      refine JL_q (wants_none rfl) rfl (ex_geq rfl rfl) ?_
      refine JL_nil ?_
      refine N_then ?_
      refine J_if rfl (fun h7 => ?_) (fun h7 => ?_)
      · refine J_seq ?_
        refine J_region ?_
        refine JL_q (wants_none rfl) rfl (ex_move rfl) ?_
        refine JL_q (wants_none rfl) rfl (ex_shrk rfl rfl (by decide)) ?_
        refine JL_q (wants_none rfl) rfl (ex_assign rfl) ?_
        refine JL_nil ?_
        refine N_then ?_
        refine J_region ?_
        refine JL_q (wants_none rfl) rfl (ex_move rfl) ?_
        refine JL_q (wants_none rfl) rfl (ex_add rfl rfl) ?_
        refine JL_q (wants_none rfl) rfl (ex_assign rfl) ?_
        refine JL_nil ?_
        refine N_then ?_
        refine J_seq ?_
        refine J_region ?_
        refine JL_q (wants_none rfl) rfl (ex_move rfl) ?_
        refine JL_q (wants_none rfl) rfl (ex_move rfl) ?_
        refine JL_q (wants_none rfl) rfl (ex_conv_ik Tryd.underlying67 Tryd.underlying5 rfl) ?_
        refine JL_bnd fun y8 hy9 => ?_
        refine JL_q (wants_none rfl) rfl (ex_index_str Tryd.underlying9 rfl rfl hy9) ?_
        refine JL_q (wants_none rfl) rfl (ex_conv_i64 Tryd.underlying5 Tryd.underlying3 rfl) ?_
        refine JL_q (wants_none rfl) rfl (ex_add rfl rfl) ?_
        refine JL_q (wants_none rfl) rfl (ex_assign rfl) ?_
        refine JL_nil ?_
        refine N_then ?_
        refine J_ret ?_
        exact N_ret1 rfl (rv_tmp rfl) (fun w hh => ⟨(), rfl, hh.sel [] rfl⟩)
      · refine J_skip ?_
        refine N_then ?_
        refine J_seq ?_
        refine J_region ?_
        refine JL_q (wants_none rfl) rfl (ex_move rfl) ?_
        refine JL_q (wants_none rfl) rfl (ex_move rfl) ?_
        refine JL_q (wants_none rfl) rfl (ex_conv_ik Tryd.underlying67 Tryd.underlying5 rfl) ?_
        refine JL_bnd fun y10 hy11 => ?_
        refine JL_q (wants_none rfl) rfl (ex_index_str Tryd.underlying9 rfl rfl hy11) ?_
        refine JL_q (wants_none rfl) rfl (ex_conv_i64 Tryd.underlying5 Tryd.underlying3 rfl) ?_
        refine JL_q (wants_none rfl) rfl (ex_add rfl rfl) ?_
        refine JL_q (wants_none rfl) rfl (ex_assign rfl) ?_
        refine JL_nil ?_
        refine N_then ?_
        refine J_ret ?_
        exact N_ret1 rfl (rv_tmp rfl) (fun w hh => ⟨(), rfl, hh.sel [] rfl⟩)

set_option maxHeartbeats 40000000 in
theorem c_internal_strconv_log10Pow2 (A : Nat → Prop) (w : World) (hA : ∀ k, A k → k < w.heap.size) (p0 : Int) (r : Int) (hr : F_internal_strconv_log10Pow2 p0 = some r) :
    Con Tryd.prog 94 [.int .i64 p0] A w (fun x_ : Unit => .int .i64 r) (fun x_ => []) := by
  refine Con_of (v := fun (r : Int) (x_ : Unit) => .int .i64 r) (fs := fun r x_ => []) Tryd.func94 rfl Tryd.ntmps94 rfl (SH.start hA) rfl ?_ hr
  unfold F_internal_strconv_log10Pow2
  refine J_seq ?_
  refine J_region ?_
  refine JL_q (wants_none rfl) rfl (ex_assign rfl) ?_
  refine JL_nil ?_
  refine N_then ?_
  refine J_seq ?_
  refine J_region ?_
  refine JL_q (wants_none rfl) rfl (ex_move rfl) ?_
  refine JL_q (wants_none rfl) rfl (ex_mul rfl rfl) ?_
  refine JL_q (wants_none rfl) rfl (ex_shr rfl rfl (by decide)) ?_
  refine JL_q (wants_none rfl) rfl (ex_assign rfl) ?_
  refine JL_nil ?_
  refine N_then ?_
  refine J_ret ?_
  exact N_ret1 rfl (rv_tmp rfl) (fun w hh => ⟨(), rfl, hh.sel [] rfl⟩)

set_option maxHeartbeats 40000000 in
theorem c_internal_strconv_bool2_int (A : Nat → Prop) (w : World) (hA : ∀ k, A k → k < w.heap.size) (p0 : Bool) (r : Int) (hr : F_internal_strconv_bool2_int p0 = some r) :
    Con Tryd.prog 96 [.bool p0] A w (fun x_ : Unit => .int .i64 r) (fun x_ => []) := by
  refine Con_of (v := fun (r : Int) (x_ : Unit) => .int .i64 r) (fs := fun r x_ => []) Tryd.func96 rfl Tryd.ntmps96 rfl (SH.start hA) rfl ?_ hr
  unfold F_internal_strconv_bool2_int
  refine J_seq ?_
  refine J_region ?_
  refine JL_q (wants_none rfl) rfl (ex_assign rfl) ?_
  refine JL_nil ?_
  refine N_then ?_
  refine J_seq ?_
  refine J_seq ?_
  refine J_region ?_
  refine JL_q (wants_none rfl) rfl (ex_move rfl) ?_
  refine JL_nil ?_
  refine N_then ?_
  refine J_if rfl (fun h1 => ?_) (fun h1 => ?_)
  · refine J_seq ?_
    refine J_region ?_
    refine JL_q (wants_none rfl) rfl (ex_assign rfl) ?_
    refine JL_nil ?_
    refine N_then ?_
    refine J_ret ?_
    refine N_then_ret ?_
    exact N_ret1 rfl (rv_tmp rfl) (fun w hh => ⟨(), rfl, hh.sel [] rfl⟩)
  · refine J_skip ?_
    refine N_then ?_
    refine J_seq ?_
    refine J_region ?_
    refine JL_q (wants_none rfl) rfl (ex_assign rfl) ?_
    refine JL_nil ?_
    refine N_then ?_
    refine J_ret ?_
    exact N_ret1 rfl (rv_tmp rfl) (fun w hh => ⟨(), rfl, hh.sel [] rfl⟩)

set_option maxHeartbeats 40000000 in
theorem c_internal_strconv_isPowerOfTwo (A : Nat → Prop) (w : World) (hA : ∀ k, A k → k < w.heap.size) (p0 : Int) (r : Bool) (hr : F_internal_strconv_isPowerOfTwo p0 = some r) :
    Con Tryd.prog 97 [.int .i64 p0] A w (fun x_ : Unit => .bool r) (fun x_ => []) := by
  refine Con_of (v := fun (r : Bool) (x_ : Unit) => .bool r) (fs := fun r x_ => []) Tryd.func97 rfl Tryd.ntmps97 rfl (SH.start hA) rfl ?_ hr
  unfold F_internal_strconv_isPowerOfTwo
  refine J_seq ?_
  refine J_region ?_
  refine JL_q (wants_none rfl) rfl (ex_assign rfl) ?_
  refine JL_nil ?_
  refine N_then ?_
  refine J_seq ?_
  refine J_region ?_
  refine JL_q (wants_none rfl) rfl (ex_move rfl) ?_
  refine JL_q (wants_none rfl) rfl (ex_move rfl) ?_
  refine JL_q (wants_none rfl) rfl (ex_sub rfl rfl) ?_
  refine JL_q (wants_none rfl) rfl (ex_and rfl rfl) ?_
  refine JL_q (wants_none rfl) rfl (ex_eql rfl rfl) ?_
  refine JL_q (wants_none rfl) rfl (ex_assign rfl) ?_
  refine JL_nil ?_
  refine N_then ?_
  refine J_ret ?_
  exact N_ret1 rfl (rv_tmp rfl) (fun w hh => ⟨(), rfl, hh.sel [] rfl⟩)

set_option maxHeartbeats 40000000 in
theorem c_internal_strconv_FormatInt (A : Nat → Prop) (w : World) (hA : ∀ k, A k → k < w.heap.size) (p0 : Int) (p1 : Int) (r : ByteArray) (hr : F_internal_strconv_FormatInt p0 p1 = some r) :
    Con Tryd.prog 75 [.int .i64 p0, .int .i64 p1] A w (fun x_ : Unit => .string r) (fun x_ => []) := by
  refine Con_of (v := fun (r : ByteArray) (x_ : Unit) => .string r) (fs := fun r x_ => []) Tryd.func75 rfl Tryd.ntmps75 rfl (SH.start hA) rfl ?_ hr
  unfold F_internal_strconv_FormatInt
  refine J_seq ?_
  refine J_region ?_
  refine JL_q (wants_none rfl) rfl (ex_assign rfl) ?_
  refine JL_nil ?_
  refine N_then ?_
  refine J_seq ?_
  refine J_seq ?_
  refine J_region ?_
  refine JL_q (wants_none rfl) rfl (ex_move rfl) ?_
  refine JL_q (wants_none rfl) rfl (ex_eql rfl rfl) ?_
  refine JL_nil ?_
  refine N_then ?_
  refine J_if rfl (fun h1 => ?_) (fun h1 => ?_)
  · refine J_seq ?_
    refine J_cut' (S' := Unit) (G' := Unit) (fun _ _ => [(0, .int .i64 p0)]) (fun _ _ => []) ?_ (fun s2 g3 => ?_)
    · refine J_seq ?_
      refine J_region ?_
      refine JL_q (wants_none rfl) rfl (ex_move rfl) ?_
      refine JL_q (wants_none rfl) rfl (ex_leq rfl rfl) ?_
      refine JL_q (wants_none rfl) rfl (ex_move rfl) ?_
      refine JL_cond (fun h4 => ?_) (fun h4 => ?_)
      · refine JL_q (wants_some rfl rfl rfl h4) rfl (ex_move rfl) ?_
        refine JL_q (wants_some rfl rfl rfl h4) rfl (ex_lss rfl rfl) ?_
        refine JL_q (wants_none rfl) rfl (ex_pick_true rfl h4 rfl) ?_
        refine JL_nil ?_
        refine N_then ?_
        refine J_if rfl (fun h5 => ?_) (fun h5 => ?_)
        · refine J_seq ?_
          refine J_region ?_
          refine JL_q (wants_none rfl) rfl (ex_move rfl) ?_
          refine JL_bnd fun r6 hr7 => ?_
          refine JL_call (wants_none rfl) rfl Tryd.call88 rfl (Ca_of0 fun w hh => c_internal_strconv_small _ w (fun _ hk => hk.elim) _ _ hr7) (fun _ => ?_)
          refine JL_q (wants_none rfl) rfl (ex_assign rfl) ?_
          refine JL_nil ?_
          refine N_then ?_
          refine J_ret ?_
          refine N_mid_ret ?_
          refine N_then_ret ?_
          refine N_then_ret ?_
          exact N_ret1 rfl (rv_tmp rfl) (fun w hh => ⟨(), rfl, hh.sel [] rfl⟩)
        · refine J_skip ?_
          exact N_meet' () ⟨rfl, trivial⟩ [] rfl rfl
      · refine JL_passed rfl rfl rfl h4 ?_
        refine JL_passed rfl rfl rfl h4 ?_
        refine JL_q (wants_none rfl) rfl (ex_pick_false rfl h4 rfl) ?_
        refine JL_nil ?_
        refine N_then ?_
        refine J_if_false rfl rfl ?_
        refine J_skip ?_
        exact N_meet' () ⟨rfl, trivial⟩ [] rfl rfl
    · refine N_then ?_
      refine J_seq ?_
      refine J_region ?_
      refine JL_st (wants_none rfl) rfl (st_alloc zi_127 rfl) (fun b8 => ?_)
      refine JL_nil ?_
      refine N_then ?_
      refine J_seq ?_
      refine J_region ?_
      refine JL_q (wants_none rfl) rfl (ex_move rfl) ?_
      refine JL_q (wants_none rfl) rfl (ex_conv_ik Tryd.underlying2 Tryd.underlying67 rfl) ?_
      refine JL_q (wants_none rfl) rfl (ex_assign rfl) ?_
      refine JL_nil ?_
      refine N_then ?_
      refine J_seq ?_
      refine J_cut' (S' := (Ik .u64)) (G' := Unit) (fun s9 _ => [(0, .int .i64 p0), (5, .pointer (some ⟨b8, 0, none⟩)), (6, .int .u64 s9.val)]) (fun s9 _ => [.bx b8 127 [.int .u8 0, .int .u8 0, .int .u8 0, .int .u8 0, .int .u8 0, .int .u8 0, .int .u8 0, .int .u8 0, .int .u8 0, .int .u8 0, .int .u8 0, .int .u8 0, .int .u8 0, .int .u8 0, .int .u8 0, .int .u8 0, .int .u8 0, .int .u8 0, .int .u8 0, .int .u8 0, .int .u8 0, .int .u8 0, .int .u8 0, .int .u8 0]]) ?_ (fun s9 g10 => ?_)
      · refine J_seq ?_
        refine J_region ?_
        refine JL_q (wants_none rfl) rfl (ex_move rfl) ?_
        refine JL_q (wants_none rfl) rfl (ex_lss rfl rfl) ?_
        refine JL_nil ?_
        refine N_then ?_
        refine J_if rfl (fun h11 => ?_) (fun h11 => ?_)
        · refine J_region ?_
          refine JL_q (wants_none rfl) rfl (ex_move rfl) ?_
          refine JL_q (wants_none rfl) rfl (ex_negk rfl) ?_
          refine JL_q (wants_none rfl) rfl (ex_assign rfl) ?_
          refine JL_nil ?_
          exact N_meet' () ⟨rfl, rfl, rfl, trivial⟩ [0] rfl rfl
        · refine J_skip ?_
          exact N_meet' () ⟨rfl, rfl, rfl, trivial⟩ [0] rfl rfl
      · refine N_then ?_
        refine J_seq ?_
        refine J_region ?_
        refine JL_q (wants_none rfl) rfl (ex_move rfl) ?_
        exact JL_none
  · refine J_skip ?_
    refine N_then ?_
    refine J_seq ?_
    refine J_region ?_
    refine JL_q (wants_none rfl) rfl (ex_move rfl) ?_
    refine JL_q (wants_none rfl) rfl (ex_conv_ik Tryd.underlying2 Tryd.underlying67 rfl) ?_
    refine JL_q (wants_none rfl) rfl (ex_move rfl) ?_
    refine JL_q (wants_none rfl) rfl (ex_move rfl) ?_
    refine JL_q (wants_none rfl) rfl (ex_lss rfl rfl) ?_
    exact JL_none

set_option maxHeartbeats 40000000 in
theorem c_strconv_FormatInt (A : Nat → Prop) (w : World) (hA : ∀ k, A k → k < w.heap.size) (p0 : Int) (p1 : Int) (r : ByteArray) (hr : F_strconv_FormatInt p0 p1 = some r) :
    Con Tryd.prog 60 [.int .i64 p0, .int .i64 p1] A w (fun x_ : Unit => .string r) (fun x_ => []) := by
  refine Con_of (v := fun (r : ByteArray) (x_ : Unit) => .string r) (fs := fun r x_ => []) Tryd.func60 rfl Tryd.ntmps60 rfl (SH.start hA) rfl ?_ hr
  unfold F_strconv_FormatInt
  refine J_seq ?_
  refine J_region ?_
  refine JL_q (wants_none rfl) rfl (ex_assign rfl) ?_
  refine JL_nil ?_
  refine N_then ?_
  refine J_seq ?_
  refine J_region ?_
  refine JL_q (wants_none rfl) rfl (ex_move rfl) ?_
  refine JL_q (wants_none rfl) rfl (ex_move rfl) ?_
  refine JL_bnd fun r1 hr2 => ?_
  refine JL_call (wants_none rfl) rfl Tryd.call75 rfl (Ca_of0 fun w hh => c_internal_strconv_FormatInt _ w (fun _ hk => hk.elim) _ _ _ hr2) (fun _ => ?_)
  refine JL_q (wants_none rfl) rfl (ex_assign rfl) ?_
  refine JL_nil ?_
  refine N_then ?_
  refine J_ret ?_
  exact N_ret1 rfl (rv_tmp rfl) (fun w hh => ⟨(), rfl, hh.sel [] rfl⟩)

set_option maxHeartbeats 40000000 in
theorem c_impl_Decimal (A : Nat → Prop) (w : World) (hA : ∀ k, A k → k < w.heap.size) (p0 : Int) (r : ByteArray) (hr : F_impl_Decimal p0 = some r) :
    Con Tryd.prog 40 [.int .i64 p0] A w (fun x_ : Unit => .string r) (fun x_ => []) := by
  refine Con_of (v := fun (r : ByteArray) (x_ : Unit) => .string r) (fs := fun r x_ => []) Tryd.func40 rfl Tryd.ntmps40 rfl (SH.start hA) rfl ?_ hr
  unfold F_impl_Decimal
  refine J_seq ?_
  refine J_region ?_
  refine JL_q (wants_none rfl) rfl (ex_assign rfl) ?_
  refine JL_nil ?_
  refine N_then ?_
  refine J_seq ?_
  refine J_region ?_
  refine JL_q (wants_none rfl) rfl (ex_move rfl) ?_
  refine JL_bnd fun r1 hr2 => ?_
  refine JL_call (wants_none rfl) rfl Tryd.call60 rfl (Ca_of0 fun w hh => c_strconv_FormatInt _ w (fun _ hk => hk.elim) _ _ _ hr2) (fun _ => ?_)
  refine JL_q (wants_none rfl) rfl (ex_assign rfl) ?_
  refine JL_nil ?_
  refine N_then ?_
  refine J_ret ?_
  exact N_ret1 rfl (rv_tmp rfl) (fun w hh => ⟨(), rfl, hh.sel [] rfl⟩)

set_option maxHeartbeats 40000000 in
theorem c_impl_configText (A : Nat → Prop) (w : World) (hA : ∀ k, A k → k < w.heap.size) (v0_ : Value) (p0 : GConfig) (hp0 : Rd A w v0_ p0) (p1 : Int) (r : ByteArray) (hr : F_impl_configText p0 p1 = some r) :
    Con Tryd.prog 18 [v0_, .int .i64 p1] A w (fun x_ : Unit => .string r) (fun x_ => []) := by
  obtain ⟨v0_0, v0_1, rfl, hp0_0, hp0_1⟩ := GConfig.open hp0
  refine Con_of (v := fun (r : ByteArray) (x_ : Unit) => .string r) (fs := fun r x_ => []) Tryd.func18 rfl Tryd.ntmps18 rfl (((SH.start hA).start_rd rfl hp0_0).start_rd rfl hp0_1) rfl ?_ hr
  unfold F_impl_configText
  refine J_seq ?_
  refine J_region ?_
  refine JL_st (wants_none rfl) rfl (st_box' rfl (fun w hh => (cv_aggs ⟨cv_int, (hh.cv 1 rfl), (hh.cv 0 rfl), trivial⟩))) (fun b1 => ?_)
  refine JL_q (wants_none rfl) rfl (ex_assign rfl) ?_
  refine JL_nil ?_
  refine N_then ?_
  refine J_seq ?_
  refine J_seq ?_
  refine J_region ?_
  refine JL_q (wants_none rfl) rfl (ex_move rfl) ?_
  refine JL_q (wants_none rfl) rfl (ex_neq rfl rfl) ?_
  refine JL_nil ?_
  refine N_then ?_
  refine J_if rfl (fun h2 => ?_) (fun h2 => ?_)
  · refine J_seq ?_
    refine J_region ?_
    refine JL_q (wants_none rfl) rfl (ex_assign rfl) ?_
    refine JL_nil ?_
    refine N_then ?_
    refine J_ret ?_
    refine N_then_ret ?_
    exact N_ret1 rfl (rv_tmp rfl) (fun w hh => ⟨(), rfl, hh.sel [] rfl⟩)
  · refine J_skip ?_
    refine N_then ?_
    refine J_seq ?_
    refine J_draw [] (by kernel_rfl) ?_
    refine JP_take (i := 0) [0, 1, 2] [] rfl (by kernel_rfl) (by kernel_rfl) (by kernel_rfl) rfl rfl (wants_none rfl) rfl (ex_fieldAddr fi_35_1 rfl rfl) ?_
    refine JP_take (i := 1) [0, 1, 2] [] rfl (by kernel_rfl) (by kernel_rfl) (by kernel_rfl) rfl rfl (wants_none rfl) rfl (ex_load_bx 0 ti_28 rfl rfl rfl) ?_
    refine JP_take (i := 5) [0, 1, 2] [] rfl (by kernel_rfl) (by kernel_rfl) (by kernel_rfl) rfl rfl (wants_none rfl) rfl (ex_fieldAddr fi_35_0 rfl rfl) ?_
    refine JP_take (i := 6) [0, 1, 2] [] rfl (by kernel_rfl) (by kernel_rfl) (by kernel_rfl) rfl rfl (wants_none rfl) rfl (ex_load_bx 0 ti_2 rfl rfl rfl) ?_
    refine JP_take (i := 10) [0, 1, 2] [] rfl (by kernel_rfl) (by kernel_rfl) (by kernel_rfl) rfl rfl (wants_none rfl) rfl (ex_fieldAddr fi_35_2 rfl rfl) ?_
    refine JP_take (i := 11) [0, 1, 2] [] rfl (by kernel_rfl) (by kernel_rfl) (by kernel_rfl) rfl rfl (wants_none rfl) rfl (ex_load_bx 0 ti_28 rfl rfl rfl) ?_
    refine JP_go [0, 1, 2] [] rfl rfl rfl (fun w4 h1_5 hp3 => ?_)
    refine JD_bnd fun r6 hr7 => ?_
    refine JD_one (i := 2) (by kernel_rfl) ?_
    refine JO_call rfl (wants_none rfl) rfl Tryd.call39 rfl (Ca_self (fun _ => rfl) fun w hh => c_impl_reversed _ w (fun _ hk => hk.elim) _ _ (hh.rd0 2 rfl) _ hr7) (fun x8 => ?_)
    refine JD_bnd fun r9 hr10 => ?_
    refine JD_one (i := 3) (by kernel_rfl) ?_
    refine JO_call rfl (wants_none rfl) rfl Tryd.call38 rfl (Ca_of0 fun w hh => c_impl_digitsText _ w (fun _ hk => hk.elim) _ _ (hh.ow0 0 rfl) _ hr10) (fun _ => ?_)
    refine JD_bnd fun z11 hz12 => ?_
    refine JD_take (i := 4) hp3 rfl (by kernel_rfl) (by kernel_rfl) (by kernel_rfl) (wants_none rfl) rfl (ex_add_str rfl rfl hz12) ?_
    refine JD_bnd fun r13 hr14 => ?_
    refine JD_one (i := 7) (by kernel_rfl) ?_
    refine JO_call rfl (wants_none rfl) rfl Tryd.call40 rfl (Ca_of0 fun w hh => c_impl_Decimal _ w (fun _ hk => hk.elim) _ _ hr14) (fun _ => ?_)
    refine JD_bnd fun z15 hz16 => ?_
    refine JD_take (i := 8) hp3 rfl (by kernel_rfl) (by kernel_rfl) (by kernel_rfl) (wants_none rfl) rfl (ex_add_str rfl rfl hz16) ?_
    refine JD_bnd fun z17 hz18 => ?_
    refine JD_take (i := 9) hp3 rfl (by kernel_rfl) (by kernel_rfl) (by kernel_rfl) (wants_none rfl) rfl (ex_add_str rfl rfl hz18) ?_
    refine JD_bnd fun r19 hr20 => ?_
    refine JD_one (i := 12) (by kernel_rfl) ?_
    refine JO_call rfl (wants_none rfl) rfl Tryd.call38 rfl (Ca_of0 fun w hh => c_impl_digitsText _ w (fun _ hk => hk.elim) _ _ (hh.rd0 2 rfl) _ hr20) (fun _ => ?_)
    refine JD_bnd fun z21 hz22 => ?_
    refine JD_take (i := 13) hp3 rfl (by kernel_rfl) (by kernel_rfl) (by kernel_rfl) (wants_none rfl) rfl (ex_add_str rfl rfl hz22) ?_
    refine JD_take (i := 14) hp3 rfl (by kernel_rfl) (by kernel_rfl) (by kernel_rfl) (wants_none rfl) rfl (ex_assign rfl) ?_
    refine JD_done (by kernel_rfl) ?_
    refine N_then ?_
    refine J_ret ?_
    exact N_ret1 rfl (rv_tmp rfl) (fun w hh => ⟨(), rfl, hh.sel [] rfl⟩)

end Go.Proofs.YtfinlgodcokmpaaDoor
