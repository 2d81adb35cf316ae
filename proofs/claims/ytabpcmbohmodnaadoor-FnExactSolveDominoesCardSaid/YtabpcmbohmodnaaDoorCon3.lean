/-
  Each function of the program computes what its plain function says: printed by program. No condition.
-/
import Derived.Test.YtabpcmbohmodnaaDoorFn
import Derived.Test.YtabpcmbohmodnaaDoorInf
import Derived.Test.YtabpcmbohmodnaaDoorCon1
import Derived.Test.YtabpcmbohmodnaaDoorCon2
namespace Go.Proofs.YtabpcmbohmodnaaDoor
open Go Go.Tc Go.Fn
set_option linter.unusedVariables false

set_option maxHeartbeats 40000000 in
theorem c_impl_SolveDominoes (A : Nat → Prop) (w : World) (hA : ∀ k, A k → k < w.heap.size) (hT_ : Stn 100 0 1 Tryd.prog w) (v0_ : Value) (p0 : (List GDomino)) (hp0 : Rd A w v0_ p0) (p1 : Int) (p2 : Int) (r : (List Int) × Int) (hr : F_impl_SolveDominoes p0 p1 p2 = some r) :
    Con Tryd.prog 7 [v0_, .int .i64 p1, .int .i64 p2] A w (fun x_ : Value => .tuple #[x_, .int .i64 r.2]) (fun x_ => [.ow 2 x_ r.1]) := by
  have hT2_ := hT_
  obtain ⟨ea0_, ea1_, hS_⟩ := hT2_
  refine Con_of (v := fun (r : (List Int) × Int) (x_ : Value) => .tuple #[x_, .int .i64 r.2]) (fs := fun r x_ => [.ow 2 x_ r.1]) Tryd.func7 rfl Tryd.ntmps7 rfl ((SH.start hA).start_rd rfl hp0) rfl ?_ hr
  unfold F_impl_SolveDominoes
  refine J_seq ?_
  refine J_region ?_
  refine JL_q (wants_none rfl) rfl (ex_assign rfl) ?_
  refine JL_q (wants_none rfl) rfl (ex_assign rfl) ?_
  refine JL_nil ?_
  refine N_then ?_
  refine J_seq ?_
  refine J_seq ?_
  refine J_region ?_
  refine JL_q (wants_none rfl) rfl (ex_move rfl) ?_
  refine JL_bnd fun r1 hr2 => ?_
  refine JL_call (wants_none rfl) rfl Tryd.call19 rfl (Ca_of0 fun w hh => c_impl_ValidDominoes _ w (fun _ hk => hk.elim) _ _ (hh.rd0 0 rfl) _ hr2) (fun _ => ?_)
  refine JL_q (wants_none rfl) rfl (ex_not rfl) ?_
  refine JL_nil ?_
  refine N_then ?_
  refine J_if rfl (fun h3 => ?_) (fun h3 => ?_)
  · refine J_seq ?_
    refine J_region ?_
    refine JL_q (wants_none rfl) rfl (ex_assign rfl) ?_
    refine JL_q (wants_none rfl) rfl (ex_assign rfl) ?_
    refine JL_nil ?_
    refine N_then ?_
    refine J_ret ?_
    refine N_then_ret ?_
    refine N_ctx (fun w hh => SH.ow_nil (α := Int) 2 hh) ?_
    exact N_ret2 rfl (rv_tmp rfl) (rv_tmp rfl) (fun w hh => ⟨(.slice none 0 0 : Value), rfl, hh.sel [0] rfl⟩)
  · refine J_skip ?_
    refine N_then ?_
    refine J_seq ?_
    refine J_cut' (S' := Unit) (G' := Unit) (fun _ _ => [(0, v0_), (1, .int .i64 p1), (2, .int .i64 p2)]) (fun _ _ => [.rd v0_ p0]) ?_ (fun s4 g5 => ?_)
    · refine J_seq ?_
      refine J_region ?_
      refine JL_q (wants_none rfl) rfl (ex_move rfl) ?_
      refine JL_bnd fun r6 hr7 => ?_
      refine JL_call (wants_none rfl) rfl Tryd.call20 rfl (Ca_of0 fun w hh => c_impl_budgetOk _ w (fun _ hk => hk.elim) _ _ hr7) (fun _ => ?_)
      refine JL_q (wants_none rfl) rfl (ex_not rfl) ?_
      refine JL_q (wants_none rfl) rfl (ex_move rfl) ?_
      refine JL_cond (fun h8 => ?_) (fun h8 => ?_)
      · refine JL_passed rfl rfl rfl h8 ?_
        refine JL_passed rfl rfl rfl h8 ?_
        refine JL_passed rfl rfl rfl h8 ?_
        refine JL_passed rfl rfl rfl h8 ?_
        refine JL_passed rfl rfl rfl h8 ?_
        refine JL_passed rfl rfl rfl h8 ?_
        refine JL_q (wants_none rfl) rfl (ex_pick_true rfl h8 rfl) ?_
        refine JL_nil ?_
        refine N_then ?_
        refine J_if_true rfl rfl ?_
        refine J_seq ?_
        refine J_region ?_
        refine JL_q (wants_none rfl) rfl (ex_assign rfl) ?_
        refine JL_q (wants_none rfl) rfl (ex_assign rfl) ?_
        refine JL_nil ?_
        refine N_then ?_
        refine J_ret ?_
        refine N_mid_ret ?_
        refine N_then_ret ?_
        refine N_ctx (fun w hh => SH.ow_nil (α := Int) 2 hh) ?_
        exact N_ret2 rfl (rv_tmp rfl) (rv_tmp rfl) (fun w hh => ⟨(.slice none 0 0 : Value), rfl, hh.sel [0] rfl⟩)
      · refine JL_q (wants_some rfl rfl rfl h8) rfl (ex_move rfl) ?_
        refine JL_q (wants_some rfl rfl rfl h8) rfl (ex_move rfl) ?_
        refine JL_bnd fun r9 hr10 => ?_
        refine JL_call (wants_some rfl rfl rfl h8) rfl Tryd.call22 rfl (Ca_of0 fun w hh => c_impl_size_impl_Domino _ w (fun _ hk => hk.elim) _ _ (hh.rd0 0 rfl) _ hr10) (fun _ => ?_)
        refine JL_q (wants_some rfl rfl rfl h8) rfl (ex_sub rfl rfl) ?_
        refine JL_bnd fun r11 hr12 => ?_
        refine JL_call (wants_some rfl rfl rfl h8) rfl Tryd.call21 rfl (Ca_of0 fun w hh => c_impl_within _ w (fun _ hk => hk.elim) _ _ _ _ hr12) (fun _ => ?_)
        refine JL_q (wants_some rfl rfl rfl h8) rfl (ex_not rfl) ?_
        refine JL_q (wants_none rfl) rfl (ex_pick_false rfl h8 rfl) ?_
        refine JL_nil ?_
        refine N_then ?_
        refine J_if rfl (fun h13 => ?_) (fun h13 => ?_)
        · refine J_seq ?_
          refine J_region ?_
          refine JL_q (wants_none rfl) rfl (ex_assign rfl) ?_
          refine JL_q (wants_none rfl) rfl (ex_assign rfl) ?_
          refine JL_nil ?_
          refine N_then ?_
          refine J_ret ?_
          refine N_mid_ret ?_
          refine N_then_ret ?_
          refine N_ctx (fun w hh => SH.ow_nil (α := Int) 2 hh) ?_
          exact N_ret2 rfl (rv_tmp rfl) (rv_tmp rfl) (fun w hh => ⟨(.slice none 0 0 : Value), rfl, hh.sel [0] rfl⟩)
        · refine J_skip ?_
          exact N_meet' () ⟨rfl, rfl, rfl, trivial⟩ [0] rfl rfl
    · refine N_then ?_
      refine J_seq ?_
      refine J_region ?_
      refine JL_q (wants_none rfl) rfl (ex_move rfl) ?_
      refine JL_st (wants_none rfl) rfl (st_makeMap (κ := ByteArray) (ν := Bool) (enc := Value.string) (venc := Value.bool)) (fun b14 => ?_)
      refine JL_q (wants_none rfl) rfl (ex_build si_47 rfl (.cons fi_47_0 rfl rfl (.cons fi_47_2 rfl rfl .nil)) (fun w hh => ⟨(hh.cv 1 rfl), cv_map, trivial⟩)) ?_
      refine JL_st (wants_none rfl) rfl (st_box' rfl (fun w hh => (cv_aggs ⟨(hh.cv 1 rfl), cv_slice, cv_map, cv_bool, trivial⟩))) (fun b15 => ?_)
      refine JL_q (wants_none rfl) rfl (ex_assign rfl) ?_
      refine JL_nil ?_
      refine N_then ?_
      refine J_seq ?_
      refine J_region ?_
      refine JL_q (wants_none rfl) rfl (ex_move rfl) ?_
      refine JL_q (wants_none rfl) rfl (ex_move rfl) ?_
      refine JL_q (wants_none rfl) rfl (ex_move rfl) ?_
      refine JL_inline (wants_none rfl) rfl Tryd.call23 rfl Tryd.func23 rfl Tryd.ntmps23 rfl rfl (fun K_ hK16 => ?_)
      refine J_seq ?_
      refine J_region ?_
      refine JL_q (wants_none rfl) rfl (ex_assign rfl) ?_
      refine JL_nil ?_
      refine N_then ?_
      refine J_seq ?_
      refine J_region ?_
      refine JL_q (wants_none rfl) rfl (ex_move rfl) ?_
      refine JL_q (wants_none rfl) rfl (ex_build si_53 rfl (.cons fi_53_3 rfl rfl .nil) (fun w hh => ⟨cv_int, trivial⟩)) ?_
      refine JL_st (wants_none rfl) rfl (st_buildSlice_od (vs := [.agg #[.bool false, .slice none 0 0, .int .i64 0, .int .i64 (-1)]]) (B := ([] : List Nat)) ([(⟨false, ([] : (List Int)), 0, (-1)⟩ : Grest)] : List Grest) [] Tryd.underlying45 ti_53 zi_53 rfl rfl rfl rfl rfl (fun w hh => (dwv_cons (Grest.dw dw_nil) dwv_nil))) (fun b17 => ?_)
      refine JL_q (wants_none rfl) rfl (ex_nilCheck rfl) ?_
      refine JL_q (wants_none rfl) rfl (ex_fieldAddr fi_47_1 rfl rfl) ?_
      refine JL_sk (wants_none rfl) (sk_store_bx' 1 ti_45 rfl rfl (fun w hh => (hh.cv_od 0 rfl)) rfl rfl rfl rfl) ?_
      refine JL_nil ?_
      refine N_then ?_
      refine J_seq ?_
      refine J_seq ?_
      refine J_region ?_
      refine JL_q (wants_none rfl) rfl (ex_assign rfl) ?_
      refine JL_nil ?_
      refine N_then ?_
      refine J_ctx (fun w hh => hh.od_ow 0 rfl) ?_
      refine J_loop' (S := (List Grest) × List (ByteArray × Bool) × Bool × Int) (G := Value) (F_impl_SolveDominoes_L1 p0 p1 p2) (fun s18 g19 => [(0, .pointer (some ⟨b15, 0, none⟩)), (1, .int .i64 p1), (2, .int .i64 p2), (7, .int .i64 s18.2.2.2)]) (fun s18 g19 => [.rd v0_ p0, .ow 53 g19 s18.1, mpf Value.string Value.bool b14 s18.2.1, .bx b15 47 [v0_, g19, .map (some b14), .bool s18.2.2.1]]) (([(⟨false, ([] : (List Int)), 0, (-1)⟩ : Grest)] : List Grest), ([] : List (ByteArray × Bool)), false, 0) (.slice (some ⟨b17, 0, none⟩) 1 1) ⟨rfl, rfl, rfl, rfl, trivial⟩ [3, 0, 2, 1] rfl rfl (fun s18 g19 => ?_) (fun s18 g19 => ?_)
      · unfold F_impl_SolveDominoes_L1
        refine J_seq ?_
        refine J_seq ?_
        refine J_region ?_
        refine JL_q (wants_none rfl) rfl (ex_move rfl) ?_
        refine JL_q (wants_none rfl) rfl (ex_move rfl) ?_
        refine JL_q (wants_none rfl) rfl (ex_nilCheck rfl) ?_
        refine JL_q (wants_none rfl) rfl (ex_fieldAddr fi_47_1 rfl rfl) ?_
        refine JL_q (wants_none rfl) rfl (ex_load_bx 3 ti_45 rfl rfl rfl) ?_
        refine JL_q (wants_none rfl) rfl (ex_len_ow 1 Tryd.underlying45 rfl rfl) ?_
        refine JL_q (wants_none rfl) rfl (ex_lss rfl rfl) ?_
        refine JL_nil ?_
        refine N_then ?_
        refine J_if rfl (fun h20 => ?_) (fun h20 => ?_)
        · refine J_skip ?_
          refine N_then ?_
          refine J_seq ?_
          refine J_block ?_
          refine J_seq ?_
          refine J_draw [] (by kernel_rfl) ?_
          refine JP_take (i := 0) [0, 1, 2, 3] [] rfl (by kernel_rfl) (by kernel_rfl) (by kernel_rfl) rfl rfl (wants_none rfl) rfl (ex_move rfl) ?_
          refine JP_take (i := 1) [0, 1, 2, 3] [] rfl (by kernel_rfl) (by kernel_rfl) (by kernel_rfl) rfl rfl (wants_none rfl) rfl (ex_nilCheck rfl) ?_
          refine JP_take (i := 2) [0, 1, 2, 3] [] rfl (by kernel_rfl) (by kernel_rfl) (by kernel_rfl) rfl rfl (wants_none rfl) rfl (ex_fieldAddr fi_47_0 rfl rfl) ?_
          refine JP_take (i := 3) [0, 1, 2, 3] [] rfl (by kernel_rfl) (by kernel_rfl) (by kernel_rfl) rfl rfl (wants_none rfl) rfl (ex_load_bx 3 ti_27 rfl rfl rfl) ?_
          refine JP_take (i := 4) [0, 1, 2, 3] [] rfl (by kernel_rfl) (by kernel_rfl) (by kernel_rfl) rfl rfl (wants_none rfl) rfl (ex_len_rd 0 Tryd.underlying27 rfl rfl) ?_
          refine JP_take (i := 5) [0, 1, 2, 3] [] rfl (by kernel_rfl) (by kernel_rfl) (by kernel_rfl) rfl rfl (wants_none rfl) rfl (ex_assign rfl) ?_
          refine JP_take (i := 6) [0, 1, 2, 3] [] rfl (by kernel_rfl) (by kernel_rfl) (by kernel_rfl) rfl rfl (wants_none rfl) rfl (ex_assign rfl) ?_
          refine JP_go [] [] rfl rfl rfl (fun _ _ _ => ?_)
          refine JD_done (by kernel_rfl) ?_
          refine N_then ?_
          refine J_seq ?_
          refine J_cut' (S' := Int × Int) (G' := Unit) (fun s21 _ => [(0, .pointer (some ⟨b15, 0, none⟩)), (1, .int .i64 p1), (2, .int .i64 p2), (7, .int .i64 s18.2.2.2), (8, .int .i64 s21.1), (9, .int .i64 s21.2)]) (fun s21 _ => [.rd v0_ p0, .ow 53 g19 s18.1, mpf Value.string Value.bool b14 s18.2.1, .bx b15 47 [v0_, g19, .map (some b14), .bool s18.2.2.1]]) ?_ (fun s21 g22 => ?_)
          · refine J_seq ?_
            refine J_region ?_
            refine JL_q (wants_none rfl) rfl (ex_move rfl) ?_
            refine JL_q (wants_none rfl) rfl (ex_eql rfl rfl) ?_
            refine JL_q (wants_none rfl) rfl (ex_move rfl) ?_
            refine JL_cond (fun h23 => ?_) (fun h23 => ?_)
            · refine JL_q (wants_some rfl rfl rfl h23) rfl (ex_move rfl) ?_
              refine JL_q (wants_some rfl rfl rfl h23) rfl (ex_geq rfl rfl) ?_
              refine JL_q (wants_none rfl) rfl (ex_pick_true rfl h23 rfl) ?_
              refine JL_nil ?_
              refine N_then ?_
              refine J_if rfl (fun h24 => ?_) (fun h24 => ?_)
              · refine J_region ?_
                refine JL_q (wants_none rfl) rfl (ex_move rfl) ?_
                refine JL_q (wants_none rfl) rfl (ex_move rfl) ?_
                refine JL_q (wants_none rfl) rfl (ex_add rfl rfl) ?_
                refine JL_q (wants_none rfl) rfl (ex_assign rfl) ?_
                refine JL_q (wants_none rfl) rfl (ex_assign rfl) ?_
                refine JL_nil ?_
                exact N_meet' () ⟨rfl, rfl, rfl, rfl, rfl, rfl, trivial⟩ [0, 1, 2, 3] rfl rfl
              · refine J_skip ?_
                exact N_meet' () ⟨rfl, rfl, rfl, rfl, rfl, rfl, trivial⟩ [0, 1, 2, 3] rfl rfl
            · refine JL_passed rfl rfl rfl h23 ?_
              refine JL_passed rfl rfl rfl h23 ?_
              refine JL_q (wants_none rfl) rfl (ex_pick_false rfl h23 rfl) ?_
              refine JL_nil ?_
              refine N_then ?_
              refine J_if_false rfl rfl ?_
              refine J_skip ?_
              exact N_meet' () ⟨rfl, rfl, rfl, rfl, rfl, rfl, trivial⟩ [0, 1, 2, 3] rfl rfl
          · refine N_then ?_
            refine J_seq ?_
            refine J_seq ?_
            refine J_region ?_
            refine JL_q (wants_none rfl) rfl (ex_move rfl) ?_
            refine JL_q (wants_none rfl) rfl (ex_move rfl) ?_
            refine JL_q (wants_none rfl) rfl (ex_eql rfl rfl) ?_
            refine JL_nil ?_
            refine N_then ?_
            refine J_if rfl (fun h25 => ?_) (fun h25 => ?_)
            · refine J_seq ?_
              refine J_region ?_
              refine JL_q (wants_none rfl) rfl (ex_load_stn1 ti_49 hS_) ?_
              refine JL_q (wants_none rfl) rfl (ex_assign rfl) ?_
              refine JL_nil ?_
              refine N_then ?_
              refine J_ret ?_
              refine N_then_ret ?_
              refine N_block_ret ?_
              refine N_then_ret ?_
              refine N_round_reti ?_
              refine N_then_ret ?_
              refine N_inl1 hK16 rfl (rv_tmp rfl) ?_
              refine JL_q (wants_none rfl) rfl (ex_assign rfl) ?_
              refine JL_nil ?_
              refine N_then ?_
              refine J_seq ?_
              refine J_block ?_
              refine J_seq ?_
              refine J_region ?_
              refine JL_q (wants_none rfl) rfl (ex_move rfl) ?_
              refine JL_q (wants_none rfl) rfl (ex_load_stn0 ti_49 hS_) ?_
              refine JL_bnd fun r26 hr27 => ?_
              refine JL_call (wants_none rfl) rfl Tryd.call24 rfl (Ca_of0 fun w hh => c_errors_Is _ w (fun _ hk => hk.elim) (hS_.of hh) 2 1 _ hr27) (fun _ => ?_)
              refine JL_q (wants_none rfl) rfl (ex_assign rfl) ?_
              refine JL_nil ?_
              refine N_then ?_
              refine J_if rfl (fun h28 => ?_) (fun h28 => ?_)
              · refine J_seq ?_
                refine J_region ?_
                refine JL_q (wants_none rfl) rfl (ex_assign rfl) ?_
                refine JL_q (wants_none rfl) rfl (ex_assign rfl) ?_
                refine JL_nil ?_
                refine N_then ?_
                refine J_ret ?_
                refine N_block_ret ?_
                refine N_then_ret ?_
                refine N_ctx (fun w hh => SH.ow_nil (α := Int) 2 hh) ?_
                exact N_ret2 rfl (rv_tmp rfl) (rv_tmp rfl) (fun w hh => ⟨(.slice none 0 0 : Value), rfl, hh.sel [0] rfl⟩)
              · refine J_seq ?_
                refine J_region ?_
                refine JL_q (wants_none rfl) rfl (ex_move rfl) ?_
                refine JL_q (wants_none rfl) rfl (ex_load_stn1 ti_49 hS_) ?_
                refine JL_bnd fun r29 hr30 => ?_
                refine JL_call (wants_none rfl) rfl Tryd.call24 rfl (Ca_of0 fun w hh => c_errors_Is _ w (fun _ hk => hk.elim) (hS_.of hh) 2 2 _ hr30) (fun _ => ?_)
                refine JL_q (wants_none rfl) rfl (ex_assign rfl) ?_
                refine JL_nil ?_
                refine N_then ?_
                refine J_if rfl (fun h31 => ?_) (fun h31 => ?_)
                · refine J_seq ?_
                  refine J_region ?_
                  refine JL_q (wants_none rfl) rfl (ex_assign rfl) ?_
                  refine JL_q (wants_none rfl) rfl (ex_assign rfl) ?_
                  refine JL_nil ?_
                  refine N_then ?_
                  refine J_ret ?_
                  refine N_block_ret ?_
                  refine N_then_ret ?_
                  refine N_ctx (fun w hh => SH.ow_nil (α := Int) 2 hh) ?_
                  exact N_ret2 rfl (rv_tmp rfl) (rv_tmp rfl) (fun w hh => ⟨(.slice none 0 0 : Value), rfl, hh.sel [0] rfl⟩)
                · refine J_skip ?_
                  refine N_block ?_
                  refine N_then ?_
                  refine J_seq ?_
                  refine J_region ?_
                  refine JL_st (wants_none rfl) rfl (st_buildSlice (vs := []) ([] : List Int) Tryd.underlying24 ti_2 zi_2 rfl rfl rfl (fun w hh => trivial)) (fun b32 => ?_)
                  refine JL_q (wants_none rfl) rfl (ex_assign rfl) ?_
                  refine JL_nil ?_
                  refine N_then ?_
                  refine J_seq ?_
                  refine J_seq ?_
                  refine J_region ?_
                  refine JL_q (wants_none rfl) rfl (ex_move rfl) ?_
                  refine JL_q (wants_none rfl) rfl (ex_nilCheck rfl) ?_
                  refine JL_q (wants_none rfl) rfl (ex_fieldAddr fi_47_1 rfl rfl) ?_
                  refine JL_q (wants_none rfl) rfl (ex_load_bx 4 ti_45 rfl rfl rfl) ?_
                  refine JL_q (wants_none rfl) rfl (ex_len_ow 2 Tryd.underlying45 rfl rfl) ?_
                  refine JL_q (wants_none rfl) rfl (ex_sub rfl rfl) ?_
                  refine JL_q (wants_none rfl) rfl (ex_assign rfl) ?_
                  refine JL_nil ?_
                  refine N_then ?_
                  refine J_ctx (fun w hh => hh.freeze 2 rfl) ?_
                  refine J_loop' (S := (List Int) × Int) (G := Value) (F_impl_SolveDominoes_L2 s18) (fun s33 g34 => [(8, .pointer (some ⟨b15, 0, none⟩)), (10, g34), (11, .int .i64 s33.2)]) (fun s33 g34 => [.rd v0_ p0, .rd g19 s18.1, mpf Value.string Value.bool b14 s18.2.1, .bx b15 47 [v0_, g19, .map (some b14), .bool s18.2.2.1], .ow 2 g34 s33.1]) (([] : List Int), (w64 ((s18.1.length : Int) - 1))) (.slice (some ⟨b32, 0, none⟩) 0 0) ⟨rfl, rfl, rfl, trivial⟩ [1, 2, 3, 4, 0] rfl rfl (fun s33 g34 => ?_) (fun s33 g34 => ?_)
                  · unfold F_impl_SolveDominoes_L2
                    refine J_seq ?_
                    refine J_seq ?_
                    refine J_region ?_
                    refine JL_q (wants_none rfl) rfl (ex_move rfl) ?_
                    refine JL_q (wants_none rfl) rfl (ex_nilCheck rfl) ?_
                    refine JL_q (wants_none rfl) rfl (ex_fieldAddr fi_47_1 rfl rfl) ?_
                    refine JL_q (wants_none rfl) rfl (ex_load_bx 3 ti_45 rfl rfl rfl) ?_
                    refine JL_q (wants_none rfl) rfl (ex_move rfl) ?_
                    refine JL_bnd fun y35 hy36 => ?_
                    refine JL_st (wants_none rfl) rfl (st_index 1 Tryd.underlying45 ti_53 rfl rfl rfl hy36) (fun q37 => ?_)
                    refine JL_st (wants_none rfl) rfl (st_field_pt 0 (Grest.at_parent _) fi_53_3 rfl rfl rfl) (fun q38 => ?_)
                    refine JL_st (wants_none rfl) rfl (st_load_pt_o 0 (opens_int _) ti_3 rfl rfl) (fun _ => ?_)
                    refine JL_q (wants_none rfl) rfl (ex_geq rfl rfl) ?_
                    refine JL_nil ?_
                    refine N_then ?_
                    refine J_if rfl (fun h40 => ?_) (fun h40 => ?_)
                    · refine J_skip ?_
                      refine N_then ?_
                      refine J_seq ?_
                      refine J_block ?_
                      refine J_region ?_
                      refine JL_q (wants_none rfl) rfl (ex_move rfl) ?_
                      refine JL_q (wants_none rfl) rfl (ex_move rfl) ?_
                      refine JL_q (wants_none rfl) rfl (ex_nilCheck rfl) ?_
                      refine JL_q (wants_none rfl) rfl (ex_fieldAddr fi_47_1 rfl rfl) ?_
                      refine JL_q (wants_none rfl) rfl (ex_load_bx 5 ti_45 rfl rfl rfl) ?_
                      refine JL_q (wants_none rfl) rfl (ex_move rfl) ?_
                      refine JL_bnd fun y41 hy42 => ?_
                      refine JL_st (wants_none rfl) rfl (st_index 3 Tryd.underlying45 ti_53 rfl rfl rfl hy42) (fun q43 => ?_)
                      refine JL_st (wants_none rfl) rfl (st_field_pt 0 (Grest.at_domino _) fi_53_2 rfl rfl rfl) (fun q44 => ?_)
                      refine JL_st (wants_none rfl) rfl (st_load_pt_o 0 (opens_int _) ti_3 rfl rfl) (fun _ => ?_)
                      refine JL_st (wants_none rfl) rfl (st_buildSlice (vs := [.int .i64 y41.domino]) ([y41.domino] : List Int) Tryd.underlying24 ti_2 zi_2 rfl rfl rfl (fun w hh => ⟨(Rd.mk_int _ _ _), trivial⟩)) (fun b46 => ?_)
                      refine JL_bnd fun z47 hz48 => ?_
                      refine JL_st (wants_none rfl) rfl (st_append 9 Tryd.underlying24 ti_2 zi_2 rfl bi_2 rfl rfl rfl rfl (fun w hh => hh.src_ow 0 rfl) hz48) (fun v49 => ?_)
                      refine JL_q (wants_none rfl) rfl (ex_assign rfl) ?_
                      refine JL_nil ?_
                      refine N_block ?_
                      refine N_then ?_
                      refine J_region ?_
                      refine JL_q (wants_none rfl) rfl (ex_move rfl) ?_
                      refine JL_q (wants_none rfl) rfl (ex_nilCheck rfl) ?_
                      refine JL_q (wants_none rfl) rfl (ex_fieldAddr fi_47_1 rfl rfl) ?_
                      refine JL_q (wants_none rfl) rfl (ex_load_bx 8 ti_45 rfl rfl rfl) ?_
                      refine JL_q (wants_none rfl) rfl (ex_move rfl) ?_
                      refine JL_bnd fun y50 hy51 => ?_
                      refine JL_st (wants_none rfl) rfl (st_index 6 Tryd.underlying45 ti_53 rfl rfl rfl hy51) (fun q52 => ?_)
                      refine JL_st (wants_none rfl) rfl (st_field_pt 0 (Grest.at_parent _) fi_53_3 rfl rfl rfl) (fun q53 => ?_)
                      refine JL_st (wants_none rfl) rfl (st_load_pt_o 0 (opens_int _) ti_3 rfl rfl) (fun _ => ?_)
                      refine JL_q (wants_none rfl) rfl (ex_assign rfl) ?_
                      refine JL_nil ?_
                      exact N_next' v49 ⟨rfl, rfl, rfl, trivial⟩ [7, 8, 9, 10, 11] rfl rfl
                    · refine J_exit ?_
                      refine N_then_exit ?_
                      exact N_break' g34 ⟨rfl, rfl, rfl, trivial⟩ [2, 3, 4, 5, 6] rfl rfl
                  · refine N_then ?_
                    refine J_seq ?_
                    refine J_seq ?_
                    refine J_region ?_
                    refine JL_q (wants_none rfl) rfl (ex_move rfl) ?_
                    refine JL_q (wants_none rfl) rfl (ex_len_ow 4 Tryd.underlying24 rfl rfl) ?_
                    refine JL_q (wants_none rfl) rfl (ex_gtr rfl rfl) ?_
                    refine JL_nil ?_
                    refine N_then ?_
                    refine J_if rfl (fun h55 => ?_) (fun h55 => ?_)
                    · refine J_seq ?_
                      refine J_region ?_
                      refine JL_q (wants_none rfl) rfl (ex_assign rfl) ?_
                      refine JL_q (wants_none rfl) rfl (ex_assign rfl) ?_
                      refine JL_nil ?_
                      refine N_then ?_
                      refine J_ret ?_
                      refine N_then_ret ?_
                      refine N_ctx (fun w hh => SH.ow_nil (α := Int) 2 hh) ?_
                      exact N_ret2 rfl (rv_tmp rfl) (rv_tmp rfl) (fun w hh => ⟨(.slice none 0 0 : Value), rfl, hh.sel [0] rfl⟩)
                    · refine J_skip ?_
                      refine N_then ?_
                      refine J_seq ?_
                      refine J_region ?_
                      refine JL_q (wants_none rfl) rfl (ex_move rfl) ?_
                      refine JL_bnd fun r56 hr57 => ?_
                      refine JL_call (wants_none rfl) rfl Tryd.call25 rfl (Ca_self (fun _ => rfl) fun w hh => c_impl_reversed _ w (fun _ hk => hk.elim) _ _ (hh.ow0 4 rfl) _ hr57) (fun x58 => ?_)
                      refine JL_q (wants_none rfl) rfl (ex_assign rfl) ?_
                      refine JL_q (wants_none rfl) rfl (ex_assign rfl) ?_
                      refine JL_nil ?_
                      refine N_then ?_
                      refine J_ret ?_
                      exact N_ret2 rfl (rv_tmp rfl) (rv_tmp rfl) (fun w hh => ⟨x58, rfl, hh.sel [0] rfl⟩)
            · refine J_skip ?_
              refine N_then ?_
              refine J_seq ?_
              refine J_seq ?_
              refine J_region ?_
              refine JL_q (wants_none rfl) rfl (ex_move rfl) ?_
              refine JL_q (wants_none rfl) rfl (ex_move rfl) ?_
              refine JL_q (wants_none rfl) rfl (ex_move rfl) ?_
              refine JL_q (wants_none rfl) rfl (ex_move rfl) ?_
              refine JL_inline (wants_none rfl) rfl Tryd.call36 rfl Tryd.func36 rfl Tryd.ntmps36 rfl rfl (fun K_ hK59 => ?_)
              refine J_seq ?_
              refine J_region ?_
              refine JL_q (wants_none rfl) rfl (ex_assign rfl) ?_
              refine JL_nil ?_
              refine N_then ?_
              refine J_seq ?_
              refine J_seq ?_
              refine J_region ?_
              refine JL_q (wants_none rfl) rfl (ex_move rfl) ?_
              refine JL_q (wants_none rfl) rfl (ex_assign rfl) ?_
              refine JL_nil ?_
              refine N_then ?_
              refine J_loop' (S := (List Grest) × List (ByteArray × Bool) × Bool × Int) (G := Value) (F_impl_SolveDominoes_L3 p0 s18 s21) (fun s60 g61 => [(0, .pointer (some ⟨b15, 0, none⟩)), (1, .int .i64 s18.2.2.2), (3, .int .i64 s21.2), (9, .int .i64 s60.2.2.2)]) (fun s60 g61 => [.rd v0_ p0, .ow 53 g61 s60.1, mpf Value.string Value.bool b14 s60.2.1, .bx b15 47 [v0_, g61, .map (some b14), .bool s60.2.2.1]]) (s18.1, s18.2.1, s18.2.2.1, s21.1) g19 ⟨rfl, rfl, rfl, rfl, trivial⟩ [0, 1, 2, 3] rfl rfl (fun s60 g61 => ?_) (fun s60 g61 => ?_)
              · unfold F_impl_SolveDominoes_L3
                refine J_seq ?_
                refine J_seq ?_
                refine J_region ?_
                refine JL_q (wants_none rfl) rfl (ex_move rfl) ?_
                refine JL_q (wants_none rfl) rfl (ex_move rfl) ?_
                refine JL_q (wants_none rfl) rfl (ex_lss rfl rfl) ?_
                refine JL_nil ?_
                refine N_then ?_
                refine J_if rfl (fun h62 => ?_) (fun h62 => ?_)
                · refine J_skip ?_
                  refine N_then ?_
                  refine J_seq ?_
                  refine J_block ?_
                  refine J_seq ?_
                  refine J_cut' (S' := Bool × (List Int) × Int × Int × Bool) (G' := Value × Nat) (fun s63 g64 => [(0, .pointer (some ⟨b15, 0, none⟩)), (1, .int .i64 s18.2.2.2), (3, .int .i64 s21.2), (9, .int .i64 s60.2.2.2), (10, .pointer (some ⟨g64.2, 0, none⟩)), (11, .bool s63.2.2.2.2)]) (fun s63 g64 => [.rd v0_ p0, .ow 53 g61 s60.1, mpf Value.string Value.bool b14 s60.2.1, .bx b15 47 [v0_, g61, .map (some b14), .bool s60.2.2.1], .rd g64.1 s63.2.1, .bx g64.2 53 [.bool s63.1, g64.1, .int .i64 s63.2.2.1, .int .i64 s63.2.2.2.1]]) ?_ (fun s63 g64 => ?_)
                  · refine J_draw [1] (by kernel_rfl) ?_
                    refine JP_take (i := 0) [0, 2, 3] [1] rfl (by kernel_rfl) (by kernel_rfl) (by kernel_rfl) rfl rfl (wants_none rfl) rfl (ex_move rfl) ?_
                    refine JP_take (i := 1) [0, 2, 3] [1] rfl (by kernel_rfl) (by kernel_rfl) (by kernel_rfl) rfl rfl (wants_none rfl) rfl (ex_nilCheck rfl) ?_
                    refine JP_take (i := 2) [0, 2, 3] [1] rfl (by kernel_rfl) (by kernel_rfl) (by kernel_rfl) rfl rfl (wants_none rfl) rfl (ex_fieldAddr fi_47_1 rfl rfl) ?_
                    refine JP_take (i := 3) [0, 2, 3] [1] rfl (by kernel_rfl) (by kernel_rfl) (by kernel_rfl) rfl rfl (wants_none rfl) rfl (ex_load_bx 2 ti_45 rfl rfl rfl) ?_
                    refine JP_take (i := 4) [0, 2, 3] [1] rfl (by kernel_rfl) (by kernel_rfl) (by kernel_rfl) rfl rfl (wants_none rfl) rfl (ex_move rfl) ?_
                    refine JP_bnd fun y65 hy66 => ?_
                    refine JP_ow_open (v := g61) 1 rfl hy66 ?_; rintro b67 cap68 rfl
                    refine JP_take (i := 5) [0, 2, 3] [1] rfl (by kernel_rfl) (by kernel_rfl) (by kernel_rfl) rfl rfl (wants_none rfl) rfl (ex_index_own Tryd.underlying45 ti_53 rfl rfl hy66 (by first | rfl | simp)) ?_
                    refine JP_take (i := 7) [0, 2, 3] [1] rfl (by kernel_rfl) (by kernel_rfl) (by kernel_rfl) rfl rfl (wants_none rfl) rfl (ex_move rfl) ?_
                    refine JP_take (i := 8) [0, 2, 3] [1] rfl (by kernel_rfl) (by kernel_rfl) (by kernel_rfl) rfl rfl (wants_none rfl) rfl (ex_nilCheck rfl) ?_
                    refine JP_take (i := 9) [0, 2, 3] [1] rfl (by kernel_rfl) (by kernel_rfl) (by kernel_rfl) rfl rfl (wants_none rfl) rfl (ex_fieldAddr fi_47_0 rfl rfl) ?_
                    refine JP_take (i := 10) [0, 2, 3] [1] rfl (by kernel_rfl) (by kernel_rfl) (by kernel_rfl) rfl rfl (wants_none rfl) rfl (ex_load_bx 2 ti_27 rfl rfl rfl) ?_
                    refine JP_take (i := 11) [0, 2, 3] [1] rfl (by kernel_rfl) (by kernel_rfl) (by kernel_rfl) rfl rfl (wants_none rfl) rfl (ex_move rfl) ?_
                    refine JP_bnd fun y69 hy70 => ?_
                    refine JP_sq (i := 12) [1] rfl (by kernel_rfl) (by kernel_rfl) (by kernel_rfl) rfl (wants_none rfl) rfl (sq_index 0 Tryd.underlying27 ti_40 rfl rfl rfl hy70) (fun q71 => ?_)
                    refine JP_sq (i := 13) [2] rfl (by kernel_rfl) (by kernel_rfl) (by kernel_rfl) rfl (wants_none rfl) rfl (sq_load_pt_o 0 (GDomino.opens _) ti_40 rfl rfl) (fun v72 => ?_)
                    refine JP_go [0, 1, 2, 3, 5, 6] [4] rfl rfl rfl (fun w74 h1_75 hp73 => ?_)
                    refine JD_two (i := 6) (j := 18) (by kernel_rfl) ?_ ?_
                    · refine JO_st rfl (wants_none rfl) rfl (st_load_ow_o 4 (Grest.opens _) ti_53 rfl rfl hy66) (fun _ hk => nomatch hk) (fun v76 => ?_)
                      refine JD_bnd fun r77 hr78 => ?_
                      refine JD_two (i := 14) (j := 18) (by kernel_rfl) ?_ ?_
                      · refine JO_call rfl (wants_none rfl) rfl Tryd.call46 rfl (Ca_of (fun _ => rfl) fun w hh => c_impl_rest_put _ w hh.av' _ _ (Grest.rdmk (Rd.mk_bool _ _ _) (hh.rd 0 rfl) (Rd.mk_int _ _ _) (Rd.mk_int _ _ _)) _ _ (GDomino.rdmk (hh.rd 1 rfl) (hh.rd 2 rfl)) _ hr78) (fun x79 => ?_)
                        refine JD_take (i := 15) hp73 rfl (by kernel_rfl) (by kernel_rfl) (by kernel_rfl) (wants_none rfl) rfl (ex_move rfl) ?_
                        refine JD_take (i := 16) hp73 rfl (by kernel_rfl) (by kernel_rfl) (by kernel_rfl) (wants_none rfl) rfl (ex_extract rfl rfl) ?_
                        refine JD_take (i := 17) hp73 rfl (by kernel_rfl) (by kernel_rfl) (by kernel_rfl) (wants_none rfl) rfl (ex_extract rfl rfl) ?_
                        refine JD_one (i := 18) (by kernel_rfl) ?_
                        refine JO_st rfl (wants_none rfl) rfl (st_alloc zi_53 rfl) (fun _ hk => nomatch hk) (fun b80 => ?_)
                        refine JD_one (i := 19) (by kernel_rfl) ?_
                        refine JO_sk2 0 [4] [0, 1, 2, 3, 5, 6] [3, 4, 5, 6, 8, 9] rfl rfl rfl rfl rfl rfl (wants_none rfl) (sk_store_bx' 0 ti_53 rfl rfl (fun w hh => (cv_aggs ⟨cv_bool, (hh.cv 1 rfl), cv_int, cv_int, trivial⟩)) rfl rfl rfl rfl) (fun _ hk => hk) ?_
                        refine JD_take (i := 20) hp73 rfl (by kernel_rfl) (by kernel_rfl) (by kernel_rfl) (wants_none rfl) rfl (ex_assign rfl) ?_
                        refine JD_done (by kernel_rfl) ?_
                        exact N_meet' (x79, b80) ⟨rfl, rfl, rfl, rfl, rfl, rfl, trivial⟩ [6, 7, 8, 9, 1, 0] rfl rfl
                      · refine JO_st rfl (wants_none rfl) rfl (st_alloc zi_53 rfl) (fun _ hk => nomatch hk) (fun b81 => ?_)
                        refine JD_one (i := 14) (by kernel_rfl) ?_
                        refine JO_call rfl (wants_none rfl) rfl Tryd.call46 rfl (Ca_of (fun _ => rfl) fun w hh => c_impl_rest_put _ w hh.av' _ _ (Grest.rdmk (Rd.mk_bool _ _ _) (hh.rd 1 rfl) (Rd.mk_int _ _ _) (Rd.mk_int _ _ _)) _ _ (GDomino.rdmk (hh.rd 2 rfl) (hh.rd 3 rfl)) _ hr78) (fun x82 => ?_)
                        refine JD_take (i := 15) hp73 rfl (by kernel_rfl) (by kernel_rfl) (by kernel_rfl) (wants_none rfl) rfl (ex_move rfl) ?_
                        refine JD_take (i := 16) hp73 rfl (by kernel_rfl) (by kernel_rfl) (by kernel_rfl) (wants_none rfl) rfl (ex_extract rfl rfl) ?_
                        refine JD_take (i := 17) hp73 rfl (by kernel_rfl) (by kernel_rfl) (by kernel_rfl) (wants_none rfl) rfl (ex_extract rfl rfl) ?_
                        refine JD_one (i := 19) (by kernel_rfl) ?_
                        refine JO_sk2 1 [4] [0, 1, 2, 3, 5, 6] [3, 4, 5, 6, 8, 9] rfl rfl rfl rfl rfl rfl (wants_none rfl) (sk_store_bx' 1 ti_53 rfl rfl (fun w hh => (cv_aggs ⟨cv_bool, (hh.cv 0 rfl), cv_int, cv_int, trivial⟩)) rfl rfl rfl rfl) (fun _ hk => hk) ?_
                        refine JD_take (i := 20) hp73 rfl (by kernel_rfl) (by kernel_rfl) (by kernel_rfl) (wants_none rfl) rfl (ex_assign rfl) ?_
                        refine JD_done (by kernel_rfl) ?_
                        exact N_meet' (x82, b81) ⟨rfl, rfl, rfl, rfl, rfl, rfl, trivial⟩ [6, 7, 8, 9, 0, 1] rfl rfl
                    · refine JO_st rfl (wants_none rfl) rfl (st_alloc zi_53 rfl) (fun _ hk => nomatch hk) (fun b83 => ?_)
                      refine JD_one (i := 6) (by kernel_rfl) ?_
                      refine JO_st rfl (wants_none rfl) rfl (st_load_ow_o 5 (Grest.opens _) ti_53 rfl rfl hy66) (fun _ hk => nomatch hk) (fun v84 => ?_)
                      refine JD_bnd fun r85 hr86 => ?_
                      refine JD_one (i := 14) (by kernel_rfl) ?_
                      refine JO_call rfl (wants_none rfl) rfl Tryd.call46 rfl (Ca_of (fun _ => rfl) fun w hh => c_impl_rest_put _ w hh.av' _ _ (Grest.rdmk (Rd.mk_bool _ _ _) (hh.rd 0 rfl) (Rd.mk_int _ _ _) (Rd.mk_int _ _ _)) _ _ (GDomino.rdmk (hh.rd 2 rfl) (hh.rd 3 rfl)) _ hr86) (fun x87 => ?_)
                      refine JD_take (i := 15) hp73 rfl (by kernel_rfl) (by kernel_rfl) (by kernel_rfl) (wants_none rfl) rfl (ex_move rfl) ?_
                      refine JD_take (i := 16) hp73 rfl (by kernel_rfl) (by kernel_rfl) (by kernel_rfl) (wants_none rfl) rfl (ex_extract rfl rfl) ?_
                      refine JD_take (i := 17) hp73 rfl (by kernel_rfl) (by kernel_rfl) (by kernel_rfl) (wants_none rfl) rfl (ex_extract rfl rfl) ?_
                      refine JD_one (i := 19) (by kernel_rfl) ?_
                      refine JO_sk2 2 [4] [0, 1, 2, 3, 5, 6] [3, 4, 5, 6, 8, 9] rfl rfl rfl rfl rfl rfl (wants_none rfl) (sk_store_bx' 2 ti_53 rfl rfl (fun w hh => (cv_aggs ⟨cv_bool, (hh.cv 0 rfl), cv_int, cv_int, trivial⟩)) rfl rfl rfl rfl) (fun _ hk => hk) ?_
                      refine JD_take (i := 20) hp73 rfl (by kernel_rfl) (by kernel_rfl) (by kernel_rfl) (wants_none rfl) rfl (ex_assign rfl) ?_
                      refine JD_done (by kernel_rfl) ?_
                      exact N_meet' (x87, b83) ⟨rfl, rfl, rfl, rfl, rfl, rfl, trivial⟩ [6, 7, 8, 9, 0, 2] rfl rfl
                  · obtain ⟨g64_0, g64_1⟩ := g64
                    refine N_then ?_
                    refine J_seq ?_
                    refine J_block ?_
                    refine J_seq ?_
                    refine J_region ?_
                    refine JL_q (wants_none rfl) rfl (ex_move rfl) ?_
                    refine JL_q (wants_none rfl) rfl (ex_not rfl) ?_
                    refine JL_q (wants_none rfl) rfl (ex_assign rfl) ?_
                    refine JL_nil ?_
                    refine N_then ?_
                    refine J_if rfl (fun h88 => ?_) (fun h88 => ?_)
                    · refine J_exit ?_
                      refine N_block_exit_ne rfl ?_
                      refine N_then_exit ?_
                      refine N_block_exit ?_
                      refine N_then ?_
                      refine J_region ?_
                      refine JL_q (wants_none rfl) rfl (ex_move rfl) ?_
                      refine JL_q (wants_none rfl) rfl (ex_add rfl rfl) ?_
                      refine JL_q (wants_none rfl) rfl (ex_assign rfl) ?_
                      refine JL_nil ?_
                      exact N_next' g61 ⟨rfl, rfl, rfl, rfl, trivial⟩ [0, 1, 2, 3] rfl rfl
                    · refine J_seq ?_
                      refine J_region ?_
                      refine JL_q (wants_none rfl) rfl (ex_fieldAddr fi_53_1 rfl rfl) ?_
                      refine JL_q (wants_none rfl) rfl (ex_load_bx 5 ti_24 rfl rfl rfl) ?_
                      refine JL_q (wants_none rfl) rfl (ex_len_rd 4 Tryd.underlying24 rfl rfl) ?_
                      refine JL_q (wants_none rfl) rfl (ex_gtr rfl rfl) ?_
                      refine JL_q (wants_none rfl) rfl (ex_assign rfl) ?_
                      refine JL_nil ?_
                      refine N_then ?_
                      refine J_if rfl (fun h89 => ?_) (fun h89 => ?_)
                      · refine J_seq ?_
                        refine J_region ?_
                        refine JL_q (wants_none rfl) rfl (ex_move rfl) ?_
                        refine JL_q (wants_none rfl) rfl (ex_nilCheck rfl) ?_
                        refine JL_q (wants_none rfl) rfl (ex_fieldAddr fi_47_3 rfl rfl) ?_
                        refine JL_sk (wants_none rfl) (sk_store_bx' 3 ti_4 rfl rfl (fun w hh => cv_bool) rfl rfl rfl rfl) ?_
                        refine JL_nil ?_
                        refine N_then ?_
                        refine J_exit ?_
                        refine N_block_exit_ne rfl ?_
                        refine N_then_exit ?_
                        refine N_block_exit ?_
                        refine N_then ?_
                        refine J_region ?_
                        refine JL_q (wants_none rfl) rfl (ex_move rfl) ?_
                        refine JL_q (wants_none rfl) rfl (ex_add rfl rfl) ?_
                        refine JL_q (wants_none rfl) rfl (ex_assign rfl) ?_
                        refine JL_nil ?_
                        exact N_next' g61 ⟨rfl, rfl, rfl, rfl, trivial⟩ [0, 1, 2, 3] rfl rfl
                      · refine J_seq ?_
                        refine J_draw [] (by kernel_rfl) ?_
                        refine JP_take (i := 0) [0, 1, 2, 3, 4, 5] [] rfl (by kernel_rfl) (by kernel_rfl) (by kernel_rfl) rfl rfl (wants_none rfl) rfl (ex_move rfl) ?_
                        refine JP_take (i := 1) [0, 1, 2, 3, 4, 5] [] rfl (by kernel_rfl) (by kernel_rfl) (by kernel_rfl) rfl rfl (wants_none rfl) rfl (ex_nilCheck rfl) ?_
                        refine JP_take (i := 2) [0, 1, 2, 3, 4, 5] [] rfl (by kernel_rfl) (by kernel_rfl) (by kernel_rfl) rfl rfl (wants_none rfl) rfl (ex_fieldAddr fi_47_2 rfl rfl) ?_
                        refine JP_take (i := 3) [0, 1, 2, 3, 4, 5] [] rfl (by kernel_rfl) (by kernel_rfl) (by kernel_rfl) rfl rfl (wants_none rfl) rfl (ex_load_bx 3 ti_44 rfl rfl rfl) ?_
                        refine JP_take (i := 4) [0, 1, 2, 3, 4, 5] [] rfl (by kernel_rfl) (by kernel_rfl) (by kernel_rfl) rfl rfl (wants_none rfl) rfl (ex_load_bx_agg 5 ti_53 rfl rfl rfl rfl) ?_
                        refine JP_go [0, 1, 2, 3, 4, 5] [] rfl rfl rfl (fun w91 h1_92 hp90 => ?_)
                        refine JD_bnd fun r93 hr94 => ?_
                        refine JD_one (i := 5) (by kernel_rfl) ?_
                        refine JO_call rfl (wants_none rfl) rfl Tryd.call47 rfl (Ca_of0 fun w hh => c_impl_rest_key _ w (fun _ hk => hk.elim) _ _ (Grest.rdmk (Rd.mk_bool _ _ _) (hh.rd0 4 rfl) (Rd.mk_int _ _ _) (Rd.mk_int _ _ _)) _ hr94) (fun _ => ?_)
                        refine JD_take (i := 6) hp90 rfl (by kernel_rfl) (by kernel_rfl) (by kernel_rfl) (wants_none rfl) rfl (ex_lookup (x := r93) (z := false) 2 key_9 Tryd.underlying44 zi_4 rfl rfl rfl rfl rfl) ?_
                        refine JD_take (i := 7) hp90 rfl (by kernel_rfl) (by kernel_rfl) (by kernel_rfl) (wants_none rfl) rfl (ex_assign rfl) ?_
                        refine JD_done (by kernel_rfl) ?_
                        refine N_then ?_
                        refine J_if rfl (fun h95 => ?_) (fun h95 => ?_)
                        · refine J_exit ?_
                          refine N_block_exit_ne rfl ?_
                          refine N_then_exit ?_
                          refine N_block_exit ?_
                          refine N_then ?_
                          refine J_region ?_
                          refine JL_q (wants_none rfl) rfl (ex_move rfl) ?_
                          refine JL_q (wants_none rfl) rfl (ex_add rfl rfl) ?_
                          refine JL_q (wants_none rfl) rfl (ex_assign rfl) ?_
                          refine JL_nil ?_
                          exact N_next' g61 ⟨rfl, rfl, rfl, rfl, trivial⟩ [0, 1, 2, 3] rfl rfl
                        · refine J_skip ?_
                          refine N_block ?_
                          refine N_then ?_
                          refine J_seq ?_
                          refine J_region ?_
                          refine JL_q (wants_none rfl) rfl (ex_move rfl) ?_
                          refine JL_q (wants_none rfl) rfl (ex_move rfl) ?_
                          refine JL_q (wants_none rfl) rfl (ex_fieldAddr fi_53_2 rfl rfl) ?_
                          refine JL_sk (wants_none rfl) (sk_store_bx' 5 ti_3 rfl rfl (fun w hh => cv_int) rfl rfl rfl rfl) ?_
                          refine JL_q (wants_none rfl) rfl (ex_fieldAddr fi_53_3 rfl rfl) ?_
                          refine JL_sk (wants_none rfl) (sk_store_bx' 5 ti_3 rfl rfl (fun w hh => cv_int) rfl rfl rfl rfl) ?_
                          refine JL_nil ?_
                          refine N_then ?_
                          refine J_seq ?_
                          refine J_draw [2] (by kernel_rfl) ?_
                          refine JP_take (i := 0) [0, 1, 3, 4, 5] [2] rfl (by kernel_rfl) (by kernel_rfl) (by kernel_rfl) rfl rfl (wants_none rfl) rfl (ex_move rfl) ?_
                          refine JP_take (i := 1) [0, 1, 3, 4, 5] [2] rfl (by kernel_rfl) (by kernel_rfl) (by kernel_rfl) rfl rfl (wants_none rfl) rfl (ex_nilCheck rfl) ?_
                          refine JP_take (i := 2) [0, 1, 3, 4, 5] [2] rfl (by kernel_rfl) (by kernel_rfl) (by kernel_rfl) rfl rfl (wants_none rfl) rfl (ex_fieldAddr fi_47_2 rfl rfl) ?_
                          refine JP_take (i := 3) [0, 1, 3, 4, 5] [2] rfl (by kernel_rfl) (by kernel_rfl) (by kernel_rfl) rfl rfl (wants_none rfl) rfl (ex_load_bx 2 ti_44 rfl rfl rfl) ?_
                          refine JP_take (i := 4) [0, 1, 3, 4, 5] [2] rfl (by kernel_rfl) (by kernel_rfl) (by kernel_rfl) rfl rfl (wants_none rfl) rfl (ex_load_bx_agg 4 ti_53 rfl rfl rfl rfl) ?_
                          refine JP_go [0, 1, 3, 4, 5] [2] rfl rfl rfl (fun w97 h1_98 hp96 => ?_)
                          refine JD_bnd fun r99 hr100 => ?_
                          refine JD_one (i := 5) (by kernel_rfl) ?_
                          refine JO_call rfl (wants_none rfl) rfl Tryd.call47 rfl (Ca_of0 fun w hh => c_impl_rest_key _ w (fun _ hk => hk.elim) _ _ (Grest.rdmk (Rd.mk_bool _ _ _) (hh.rd0 4 rfl) (Rd.mk_int _ _ _) (Rd.mk_int _ _ _)) _ hr100) (fun _ => ?_)
                          refine JD_one (i := 6) (by kernel_rfl) ?_
                          refine JO_sk rfl (wants_none rfl) (sk_mapUpdate (x := r99) (y := true) 2 key_9 Tryd.underlying44 rfl rfl rfl rfl rfl rfl rfl rfl) (sub_mp 0 rfl) ?_
                          refine JD_done (by kernel_rfl) ?_
                          refine N_then ?_
                          refine J_seq ?_
                          refine J_cut' (S' := (List Grest)) (G' := Value) (fun s101 g102 => [(0, .pointer (some ⟨b15, 0, none⟩)), (1, .int .i64 s18.2.2.2), (3, .int .i64 s21.2), (9, .int .i64 s60.2.2.2), (10, .pointer (some ⟨g64_1, 0, none⟩))]) (fun s101 g102 => [.rd v0_ p0, .ow 53 g102 s101, mpf Value.string Value.bool b14 (mput s60.2.1 r99 true), .bx b15 47 [v0_, g102, .map (some b14), .bool s60.2.2.1], .rd g64_0 s63.2.1, .bx g64_1 53 [.bool s63.1, g64_0, .int .i64 s60.2.2.2, .int .i64 s18.2.2.2]]) ?_ (fun s101 g102 => ?_)
                          · refine J_draw [1, 3] (by kernel_rfl) ?_
                            refine JP_take (i := 0) [0, 2, 4, 5] [1, 3] rfl (by kernel_rfl) (by kernel_rfl) (by kernel_rfl) rfl rfl (wants_none rfl) rfl (ex_move rfl) ?_
                            refine JP_take (i := 1) [0, 2, 4, 5] [1, 3] rfl (by kernel_rfl) (by kernel_rfl) (by kernel_rfl) rfl rfl (wants_none rfl) rfl (ex_move rfl) ?_
                            refine JP_take (i := 2) [0, 2, 4, 5] [1, 3] rfl (by kernel_rfl) (by kernel_rfl) (by kernel_rfl) rfl rfl (wants_none rfl) rfl (ex_nilCheck rfl) ?_
                            refine JP_take (i := 3) [0, 2, 4, 5] [1, 3] rfl (by kernel_rfl) (by kernel_rfl) (by kernel_rfl) rfl rfl (wants_none rfl) rfl (ex_fieldAddr fi_47_1 rfl rfl) ?_
                            refine JP_take (i := 5) [0, 2, 4, 5] [1, 3] rfl (by kernel_rfl) (by kernel_rfl) (by kernel_rfl) rfl rfl (wants_none rfl) rfl (ex_load_bx_agg 3 ti_53 rfl rfl rfl rfl) ?_
                            refine JP_go [0, 2, 4, 5] [1, 3] rfl rfl rfl (fun w104 h1_105 hp103 => ?_)
                            refine JD_two (i := 4) (j := 6) (by kernel_rfl) ?_ ?_
                            · refine JO_q rfl (wants_none rfl) rfl (ex_load_bx 3 ti_45 rfl rfl rfl) ?_
                              refine JD_one (i := 6) (by kernel_rfl) ?_
                              refine JO_st rfl (wants_none rfl) rfl (st_buildSlice (vs := [.agg #[.bool s63.1, g64_0, .int .i64 s60.2.2.2, .int .i64 s18.2.2.2]]) ([(⟨s63.1, s63.2.1, s60.2.2.2, s18.2.2.2⟩ : Grest)] : List Grest) Tryd.underlying45 ti_53 zi_53 rfl rfl rfl (fun w hh => ⟨(Grest.rdmk (Rd.mk_bool _ _ _) (hh.rd 4 rfl) (Rd.mk_int _ _ _) (Rd.mk_int _ _ _)), trivial⟩)) (fun _ hk => nomatch hk) (fun b106 => ?_)
                              refine JD_bnd fun z107 hz108 => ?_
                              refine JD_one (i := 7) (by kernel_rfl) ?_
                              refine JO_st rfl (wants_none rfl) rfl (st_append 2 Tryd.underlying45 ti_53 zi_53 rfl bi_53 rfl rfl rfl rfl (fun w hh => hh.src_ow 0 rfl) hz108) (sub_ow 0 rfl) (fun v109 => ?_)
                              refine JD_take (i := 8) hp103 rfl (by kernel_rfl) (by kernel_rfl) (by kernel_rfl) (wants_none rfl) rfl (ex_nilCheck rfl) ?_
                              refine JD_take (i := 9) hp103 rfl (by kernel_rfl) (by kernel_rfl) (by kernel_rfl) (wants_none rfl) rfl (ex_fieldAddr fi_47_1 rfl rfl) ?_
                              refine JD_one (i := 10) (by kernel_rfl) ?_
                              refine JO_sk rfl (wants_none rfl) (sk_store_bx' 4 ti_45 rfl rfl (fun w hh => (hh.cv_ow 2 rfl)) rfl rfl rfl rfl) (sub_bx 1 rfl) ?_
                              refine JD_done (by kernel_rfl) ?_
                              exact N_meet' v109 ⟨rfl, rfl, rfl, rfl, rfl, trivial⟩ [1, 2, 3, 4, 5, 6] rfl rfl
                            · refine JO_st rfl (wants_none rfl) rfl (st_buildSlice (vs := [.agg #[.bool s63.1, g64_0, .int .i64 s60.2.2.2, .int .i64 s18.2.2.2]]) ([(⟨s63.1, s63.2.1, s60.2.2.2, s18.2.2.2⟩ : Grest)] : List Grest) Tryd.underlying45 ti_53 zi_53 rfl rfl rfl (fun w hh => ⟨(Grest.rdmk (Rd.mk_bool _ _ _) (hh.rd 4 rfl) (Rd.mk_int _ _ _) (Rd.mk_int _ _ _)), trivial⟩)) (fun _ hk => nomatch hk) (fun b110 => ?_)
                              refine JD_one (i := 4) (by kernel_rfl) ?_
                              refine JO_q rfl (wants_none rfl) rfl (ex_load_bx 4 ti_45 rfl rfl rfl) ?_
                              refine JD_bnd fun z111 hz112 => ?_
                              refine JD_one (i := 7) (by kernel_rfl) ?_
                              refine JO_st rfl (wants_none rfl) rfl (st_append 2 Tryd.underlying45 ti_53 zi_53 rfl bi_53 rfl rfl rfl rfl (fun w hh => hh.src_ow 0 rfl) hz112) (sub_ow 0 rfl) (fun v113 => ?_)
                              refine JD_take (i := 8) hp103 rfl (by kernel_rfl) (by kernel_rfl) (by kernel_rfl) (wants_none rfl) rfl (ex_nilCheck rfl) ?_
                              refine JD_take (i := 9) hp103 rfl (by kernel_rfl) (by kernel_rfl) (by kernel_rfl) (wants_none rfl) rfl (ex_fieldAddr fi_47_1 rfl rfl) ?_
                              refine JD_one (i := 10) (by kernel_rfl) ?_
                              refine JO_sk rfl (wants_none rfl) (sk_store_bx' 4 ti_45 rfl rfl (fun w hh => (hh.cv_ow 2 rfl)) rfl rfl rfl rfl) (sub_bx 1 rfl) ?_
                              refine JD_done (by kernel_rfl) ?_
                              exact N_meet' v113 ⟨rfl, rfl, rfl, rfl, rfl, trivial⟩ [1, 2, 3, 4, 5, 6] rfl rfl
                          · refine N_then ?_
                            refine J_seq ?_
                            refine J_region ?_
                            refine JL_q (wants_none rfl) rfl (ex_fieldAddr fi_53_1 rfl rfl) ?_
                            refine JL_q (wants_none rfl) rfl (ex_load_bx 5 ti_24 rfl rfl rfl) ?_
                            refine JL_q (wants_none rfl) rfl (ex_len_rd 4 Tryd.underlying24 rfl rfl) ?_
                            refine JL_q (wants_none rfl) rfl (ex_eql rfl rfl) ?_
                            refine JL_q (wants_none rfl) rfl (ex_move rfl) ?_
                            refine JL_cond (fun h114 => ?_) (fun h114 => ?_)
                            · refine JL_passed rfl rfl rfl h114 ?_
                              refine JL_passed rfl rfl rfl h114 ?_
                              refine JL_passed rfl rfl rfl h114 ?_
                              refine JL_passed rfl rfl rfl h114 ?_
                              refine JL_passed rfl rfl rfl h114 ?_
                              refine JL_passed rfl rfl rfl h114 ?_
                              refine JL_q (wants_none rfl) rfl (ex_pick_true rfl h114 rfl) ?_
                              refine JL_nil ?_
                              refine N_then ?_
                              refine J_if_true rfl rfl ?_
                              refine J_seq ?_
                              refine J_region ?_
                              refine JL_q (wants_none rfl) rfl (ex_fieldAddr fi_53_1 rfl rfl) ?_
                              refine JL_q (wants_none rfl) rfl (ex_load_bx 5 ti_24 rfl rfl rfl) ?_
                              refine JL_q (wants_none rfl) rfl (ex_len_rd 4 Tryd.underlying24 rfl rfl) ?_
                              refine JL_q (wants_none rfl) rfl (ex_eql rfl rfl) ?_
                              refine JL_q (wants_none rfl) rfl (ex_assign rfl) ?_
                              refine JL_nil ?_
                              refine N_then ?_
                              refine J_ret ?_
                              refine N_block_ret ?_
                              refine N_then_ret ?_
                              refine N_round_reti ?_
                              refine N_then_ret ?_
                              refine N_inl1 hK59 rfl (rv_tmp rfl) ?_
                              refine JL_nil ?_
                              refine N_then ?_
                              refine J_if_true rfl h114 ?_
                              refine J_seq ?_
                              refine J_region ?_
                              refine JL_q (wants_none rfl) rfl (ex_assign rfl) ?_
                              refine JL_nil ?_
                              refine N_then ?_
                              refine J_ret ?_
                              refine N_then_ret ?_
                              refine N_block_ret ?_
                              refine N_then_ret ?_
                              refine N_round_reti ?_
                              refine N_then_ret ?_
                              refine N_inl1 hK16 rfl (rv_tmp rfl) ?_
                              refine JL_q (wants_none rfl) rfl (ex_assign rfl) ?_
                              refine JL_nil ?_
                              refine N_then ?_
                              refine J_seq ?_
                              refine J_block ?_
                              refine J_seq ?_
                              refine J_region ?_
                              refine JL_q (wants_none rfl) rfl (ex_move rfl) ?_
                              refine JL_q (wants_none rfl) rfl (ex_load_stn0 ti_49 hS_) ?_
                              refine JL_bnd fun r115 hr116 => ?_
                              refine JL_call (wants_none rfl) rfl Tryd.call24 rfl (Ca_of0 fun w hh => c_errors_Is _ w (fun _ hk => hk.elim) (hS_.of hh) 0 1 _ hr116) (fun _ => ?_)
                              refine JL_q (wants_none rfl) rfl (ex_assign rfl) ?_
                              refine JL_nil ?_
                              refine N_then ?_
                              refine J_if rfl (fun h117 => ?_) (fun h117 => ?_)
                              · refine J_seq ?_
                                refine J_region ?_
                                refine JL_q (wants_none rfl) rfl (ex_assign rfl) ?_
                                refine JL_q (wants_none rfl) rfl (ex_assign rfl) ?_
                                refine JL_nil ?_
                                refine N_then ?_
                                refine J_ret ?_
                                refine N_block_ret ?_
                                refine N_then_ret ?_
                                refine N_ctx (fun w hh => SH.ow_nil (α := Int) 2 hh) ?_
                                exact N_ret2 rfl (rv_tmp rfl) (rv_tmp rfl) (fun w hh => ⟨(.slice none 0 0 : Value), rfl, hh.sel [0] rfl⟩)
                              · refine J_seq ?_
                                refine J_region ?_
                                refine JL_q (wants_none rfl) rfl (ex_move rfl) ?_
                                refine JL_q (wants_none rfl) rfl (ex_load_stn1 ti_49 hS_) ?_
                                refine JL_bnd fun r118 hr119 => ?_
                                refine JL_call (wants_none rfl) rfl Tryd.call24 rfl (Ca_of0 fun w hh => c_errors_Is _ w (fun _ hk => hk.elim) (hS_.of hh) 0 2 _ hr119) (fun _ => ?_)
                                refine JL_q (wants_none rfl) rfl (ex_assign rfl) ?_
                                refine JL_nil ?_
                                refine N_then ?_
                                refine J_if rfl (fun h120 => ?_) (fun h120 => ?_)
                                · refine J_seq ?_
                                  refine J_region ?_
                                  refine JL_q (wants_none rfl) rfl (ex_assign rfl) ?_
                                  refine JL_q (wants_none rfl) rfl (ex_assign rfl) ?_
                                  refine JL_nil ?_
                                  refine N_then ?_
                                  refine J_ret ?_
                                  refine N_block_ret ?_
                                  refine N_then_ret ?_
                                  refine N_ctx (fun w hh => SH.ow_nil (α := Int) 2 hh) ?_
                                  exact N_ret2 rfl (rv_tmp rfl) (rv_tmp rfl) (fun w hh => ⟨(.slice none 0 0 : Value), rfl, hh.sel [0] rfl⟩)
                                · refine J_skip ?_
                                  refine N_block ?_
                                  refine N_then ?_
                                  refine J_seq ?_
                                  refine J_region ?_
                                  refine JL_st (wants_none rfl) rfl (st_buildSlice (vs := []) ([] : List Int) Tryd.underlying24 ti_2 zi_2 rfl rfl rfl (fun w hh => trivial)) (fun b121 => ?_)
                                  refine JL_q (wants_none rfl) rfl (ex_assign rfl) ?_
                                  refine JL_nil ?_
                                  refine N_then ?_
                                  refine J_seq ?_
                                  refine J_seq ?_
                                  refine J_region ?_
                                  refine JL_q (wants_none rfl) rfl (ex_move rfl) ?_
                                  refine JL_q (wants_none rfl) rfl (ex_nilCheck rfl) ?_
                                  refine JL_q (wants_none rfl) rfl (ex_fieldAddr fi_47_1 rfl rfl) ?_
                                  refine JL_q (wants_none rfl) rfl (ex_load_bx 4 ti_45 rfl rfl rfl) ?_
                                  refine JL_q (wants_none rfl) rfl (ex_len_ow 2 Tryd.underlying45 rfl rfl) ?_
                                  refine JL_q (wants_none rfl) rfl (ex_sub rfl rfl) ?_
                                  refine JL_q (wants_none rfl) rfl (ex_assign rfl) ?_
                                  refine JL_nil ?_
                                  refine N_then ?_
                                  refine J_ctx (fun w hh => hh.freeze 2 rfl) ?_
                                  refine J_loop' (S := (List Int) × Int) (G := Value) (F_impl_SolveDominoes_L4 s101) (fun s122 g123 => [(8, .pointer (some ⟨b15, 0, none⟩)), (10, g123), (11, .int .i64 s122.2)]) (fun s122 g123 => [.rd v0_ p0, .rd g102 s101, mpf Value.string Value.bool b14 (mput s60.2.1 r99 true), .bx b15 47 [v0_, g102, .map (some b14), .bool s60.2.2.1], .ow 2 g123 s122.1]) (([] : List Int), (w64 ((s101.length : Int) - 1))) (.slice (some ⟨b121, 0, none⟩) 0 0) ⟨rfl, rfl, rfl, trivial⟩ [1, 2, 3, 4, 0] rfl rfl (fun s122 g123 => ?_) (fun s122 g123 => ?_)
                                  · unfold F_impl_SolveDominoes_L4
                                    refine J_seq ?_
                                    refine J_seq ?_
                                    refine J_region ?_
                                    refine JL_q (wants_none rfl) rfl (ex_move rfl) ?_
                                    refine JL_q (wants_none rfl) rfl (ex_nilCheck rfl) ?_
                                    refine JL_q (wants_none rfl) rfl (ex_fieldAddr fi_47_1 rfl rfl) ?_
                                    refine JL_q (wants_none rfl) rfl (ex_load_bx 3 ti_45 rfl rfl rfl) ?_
                                    refine JL_q (wants_none rfl) rfl (ex_move rfl) ?_
                                    refine JL_bnd fun y124 hy125 => ?_
                                    refine JL_st (wants_none rfl) rfl (st_index 1 Tryd.underlying45 ti_53 rfl rfl rfl hy125) (fun q126 => ?_)
                                    refine JL_st (wants_none rfl) rfl (st_field_pt 0 (Grest.at_parent _) fi_53_3 rfl rfl rfl) (fun q127 => ?_)
                                    refine JL_st (wants_none rfl) rfl (st_load_pt_o 0 (opens_int _) ti_3 rfl rfl) (fun _ => ?_)
                                    refine JL_q (wants_none rfl) rfl (ex_geq rfl rfl) ?_
                                    refine JL_nil ?_
                                    refine N_then ?_
                                    refine J_if rfl (fun h129 => ?_) (fun h129 => ?_)
                                    · refine J_skip ?_
                                      refine N_then ?_
                                      refine J_seq ?_
                                      refine J_block ?_
                                      refine J_region ?_
                                      refine JL_q (wants_none rfl) rfl (ex_move rfl) ?_
                                      refine JL_q (wants_none rfl) rfl (ex_move rfl) ?_
                                      refine JL_q (wants_none rfl) rfl (ex_nilCheck rfl) ?_
                                      refine JL_q (wants_none rfl) rfl (ex_fieldAddr fi_47_1 rfl rfl) ?_
                                      refine JL_q (wants_none rfl) rfl (ex_load_bx 5 ti_45 rfl rfl rfl) ?_
                                      refine JL_q (wants_none rfl) rfl (ex_move rfl) ?_
                                      refine JL_bnd fun y130 hy131 => ?_
                                      refine JL_st (wants_none rfl) rfl (st_index 3 Tryd.underlying45 ti_53 rfl rfl rfl hy131) (fun q132 => ?_)
                                      refine JL_st (wants_none rfl) rfl (st_field_pt 0 (Grest.at_domino _) fi_53_2 rfl rfl rfl) (fun q133 => ?_)
                                      refine JL_st (wants_none rfl) rfl (st_load_pt_o 0 (opens_int _) ti_3 rfl rfl) (fun _ => ?_)
                                      refine JL_st (wants_none rfl) rfl (st_buildSlice (vs := [.int .i64 y130.domino]) ([y130.domino] : List Int) Tryd.underlying24 ti_2 zi_2 rfl rfl rfl (fun w hh => ⟨(Rd.mk_int _ _ _), trivial⟩)) (fun b135 => ?_)
                                      refine JL_bnd fun z136 hz137 => ?_
                                      refine JL_st (wants_none rfl) rfl (st_append 9 Tryd.underlying24 ti_2 zi_2 rfl bi_2 rfl rfl rfl rfl (fun w hh => hh.src_ow 0 rfl) hz137) (fun v138 => ?_)
                                      refine JL_q (wants_none rfl) rfl (ex_assign rfl) ?_
                                      refine JL_nil ?_
                                      refine N_block ?_
                                      refine N_then ?_
                                      refine J_region ?_
                                      refine JL_q (wants_none rfl) rfl (ex_move rfl) ?_
                                      refine JL_q (wants_none rfl) rfl (ex_nilCheck rfl) ?_
                                      refine JL_q (wants_none rfl) rfl (ex_fieldAddr fi_47_1 rfl rfl) ?_
                                      refine JL_q (wants_none rfl) rfl (ex_load_bx 8 ti_45 rfl rfl rfl) ?_
                                      refine JL_q (wants_none rfl) rfl (ex_move rfl) ?_
                                      refine JL_bnd fun y139 hy140 => ?_
                                      refine JL_st (wants_none rfl) rfl (st_index 6 Tryd.underlying45 ti_53 rfl rfl rfl hy140) (fun q141 => ?_)
                                      refine JL_st (wants_none rfl) rfl (st_field_pt 0 (Grest.at_parent _) fi_53_3 rfl rfl rfl) (fun q142 => ?_)
                                      refine JL_st (wants_none rfl) rfl (st_load_pt_o 0 (opens_int _) ti_3 rfl rfl) (fun _ => ?_)
                                      refine JL_q (wants_none rfl) rfl (ex_assign rfl) ?_
                                      refine JL_nil ?_
                                      exact N_next' v138 ⟨rfl, rfl, rfl, trivial⟩ [7, 8, 9, 10, 11] rfl rfl
                                    · refine J_exit ?_
                                      refine N_then_exit ?_
                                      exact N_break' g123 ⟨rfl, rfl, rfl, trivial⟩ [2, 3, 4, 5, 6] rfl rfl
                                  · refine N_then ?_
                                    refine J_seq ?_
                                    refine J_seq ?_
                                    refine J_region ?_
                                    refine JL_q (wants_none rfl) rfl (ex_move rfl) ?_
                                    refine JL_q (wants_none rfl) rfl (ex_len_ow 4 Tryd.underlying24 rfl rfl) ?_
                                    refine JL_q (wants_none rfl) rfl (ex_gtr rfl rfl) ?_
                                    refine JL_nil ?_
                                    refine N_then ?_
                                    refine J_if rfl (fun h144 => ?_) (fun h144 => ?_)
                                    · refine J_seq ?_
                                      refine J_region ?_
                                      refine JL_q (wants_none rfl) rfl (ex_assign rfl) ?_
                                      refine JL_q (wants_none rfl) rfl (ex_assign rfl) ?_
                                      refine JL_nil ?_
                                      refine N_then ?_
                                      refine J_ret ?_
                                      refine N_then_ret ?_
                                      refine N_ctx (fun w hh => SH.ow_nil (α := Int) 2 hh) ?_
                                      exact N_ret2 rfl (rv_tmp rfl) (rv_tmp rfl) (fun w hh => ⟨(.slice none 0 0 : Value), rfl, hh.sel [0] rfl⟩)
                                    · refine J_skip ?_
                                      refine N_then ?_
                                      refine J_seq ?_
                                      refine J_region ?_
                                      refine JL_q (wants_none rfl) rfl (ex_move rfl) ?_
                                      refine JL_bnd fun r145 hr146 => ?_
                                      refine JL_call (wants_none rfl) rfl Tryd.call25 rfl (Ca_self (fun _ => rfl) fun w hh => c_impl_reversed _ w (fun _ hk => hk.elim) _ _ (hh.ow0 4 rfl) _ hr146) (fun x147 => ?_)
                                      refine JL_q (wants_none rfl) rfl (ex_assign rfl) ?_
                                      refine JL_q (wants_none rfl) rfl (ex_assign rfl) ?_
                                      refine JL_nil ?_
                                      refine N_then ?_
                                      refine J_ret ?_
                                      exact N_ret2 rfl (rv_tmp rfl) (rv_tmp rfl) (fun w hh => ⟨x147, rfl, hh.sel [0] rfl⟩)
                            · refine JL_q (wants_some rfl rfl rfl h114) rfl (ex_move rfl) ?_
                              refine JL_q (wants_some rfl rfl rfl h114) rfl (ex_nilCheck rfl) ?_
                              refine JL_q (wants_some rfl rfl rfl h114) rfl (ex_fieldAddr fi_47_1 rfl rfl) ?_
                              refine JL_q (wants_some rfl rfl rfl h114) rfl (ex_load_bx 3 ti_45 rfl rfl rfl) ?_
                              refine JL_q (wants_some rfl rfl rfl h114) rfl (ex_len_ow 1 Tryd.underlying45 rfl rfl) ?_
                              refine JL_q (wants_some rfl rfl rfl h114) rfl (ex_eql rfl rfl) ?_
                              refine JL_q (wants_none rfl) rfl (ex_pick_false rfl h114 rfl) ?_
                              refine JL_nil ?_
                              refine N_then ?_
                              refine J_if rfl (fun h148 => ?_) (fun h148 => ?_)
                              · refine J_seq ?_
                                refine J_region ?_
                                refine JL_q (wants_none rfl) rfl (ex_fieldAddr fi_53_1 rfl rfl) ?_
                                refine JL_q (wants_none rfl) rfl (ex_load_bx 5 ti_24 rfl rfl rfl) ?_
                                refine JL_q (wants_none rfl) rfl (ex_len_rd 4 Tryd.underlying24 rfl rfl) ?_
                                refine JL_q (wants_none rfl) rfl (ex_eql rfl rfl) ?_
                                refine JL_q (wants_none rfl) rfl (ex_assign rfl) ?_
                                refine JL_nil ?_
                                refine N_then ?_
                                refine J_ret ?_
                                refine N_block_ret ?_
                                refine N_then_ret ?_
                                refine N_round_reti ?_
                                refine N_then_ret ?_
                                refine N_inl1 hK59 rfl (rv_tmp rfl) ?_
                                refine JL_nil ?_
                                refine N_then ?_
                                refine J_if_false rfl h114 ?_
                                refine J_skip ?_
                                refine N_then ?_
                                refine J_seq ?_
                                refine J_region ?_
                                refine JL_q (wants_none rfl) rfl (ex_move rfl) ?_
                                refine JL_q (wants_none rfl) rfl (ex_nilCheck rfl) ?_
                                refine JL_q (wants_none rfl) rfl (ex_fieldAddr fi_47_1 rfl rfl) ?_
                                refine JL_q (wants_none rfl) rfl (ex_load_bx 3 ti_45 rfl rfl rfl) ?_
                                refine JL_q (wants_none rfl) rfl (ex_len_ow 1 Tryd.underlying45 rfl rfl) ?_
                                refine JL_q (wants_none rfl) rfl (ex_eql rfl rfl) ?_
                                refine JL_nil ?_
                                refine N_then ?_
                                refine J_if_true rfl h148 ?_
                                refine J_seq ?_
                                refine J_region ?_
                                refine JL_q (wants_none rfl) rfl (ex_load_stn1 ti_49 hS_) ?_
                                refine JL_q (wants_none rfl) rfl (ex_assign rfl) ?_
                                refine JL_nil ?_
                                refine N_then ?_
                                refine J_ret ?_
                                refine N_block_ret ?_
                                refine N_then_ret ?_
                                refine N_round_reti ?_
                                refine N_then_ret ?_
                                refine N_inl1 hK16 rfl (rv_tmp rfl) ?_
                                refine JL_q (wants_none rfl) rfl (ex_assign rfl) ?_
                                refine JL_nil ?_
                                refine N_then ?_
                                refine J_seq ?_
                                refine J_block ?_
                                refine J_seq ?_
                                refine J_region ?_
                                refine JL_q (wants_none rfl) rfl (ex_move rfl) ?_
                                refine JL_q (wants_none rfl) rfl (ex_load_stn0 ti_49 hS_) ?_
                                refine JL_bnd fun r149 hr150 => ?_
                                refine JL_call (wants_none rfl) rfl Tryd.call24 rfl (Ca_of0 fun w hh => c_errors_Is _ w (fun _ hk => hk.elim) (hS_.of hh) 2 1 _ hr150) (fun _ => ?_)
                                refine JL_q (wants_none rfl) rfl (ex_assign rfl) ?_
                                refine JL_nil ?_
                                refine N_then ?_
                                refine J_if rfl (fun h151 => ?_) (fun h151 => ?_)
                                · refine J_seq ?_
                                  refine J_region ?_
                                  refine JL_q (wants_none rfl) rfl (ex_assign rfl) ?_
                                  refine JL_q (wants_none rfl) rfl (ex_assign rfl) ?_
                                  refine JL_nil ?_
                                  refine N_then ?_
                                  refine J_ret ?_
                                  refine N_block_ret ?_
                                  refine N_then_ret ?_
                                  refine N_ctx (fun w hh => SH.ow_nil (α := Int) 2 hh) ?_
                                  exact N_ret2 rfl (rv_tmp rfl) (rv_tmp rfl) (fun w hh => ⟨(.slice none 0 0 : Value), rfl, hh.sel [0] rfl⟩)
                                · refine J_seq ?_
                                  refine J_region ?_
                                  refine JL_q (wants_none rfl) rfl (ex_move rfl) ?_
                                  refine JL_q (wants_none rfl) rfl (ex_load_stn1 ti_49 hS_) ?_
                                  refine JL_bnd fun r152 hr153 => ?_
                                  refine JL_call (wants_none rfl) rfl Tryd.call24 rfl (Ca_of0 fun w hh => c_errors_Is _ w (fun _ hk => hk.elim) (hS_.of hh) 2 2 _ hr153) (fun _ => ?_)
                                  refine JL_q (wants_none rfl) rfl (ex_assign rfl) ?_
                                  refine JL_nil ?_
                                  refine N_then ?_
                                  refine J_if rfl (fun h154 => ?_) (fun h154 => ?_)
                                  · refine J_seq ?_
                                    refine J_region ?_
                                    refine JL_q (wants_none rfl) rfl (ex_assign rfl) ?_
                                    refine JL_q (wants_none rfl) rfl (ex_assign rfl) ?_
                                    refine JL_nil ?_
                                    refine N_then ?_
                                    refine J_ret ?_
                                    refine N_block_ret ?_
                                    refine N_then_ret ?_
                                    refine N_ctx (fun w hh => SH.ow_nil (α := Int) 2 hh) ?_
                                    exact N_ret2 rfl (rv_tmp rfl) (rv_tmp rfl) (fun w hh => ⟨(.slice none 0 0 : Value), rfl, hh.sel [0] rfl⟩)
                                  · refine J_skip ?_
                                    refine N_block ?_
                                    refine N_then ?_
                                    refine J_seq ?_
                                    refine J_region ?_
                                    refine JL_st (wants_none rfl) rfl (st_buildSlice (vs := []) ([] : List Int) Tryd.underlying24 ti_2 zi_2 rfl rfl rfl (fun w hh => trivial)) (fun b155 => ?_)
                                    refine JL_q (wants_none rfl) rfl (ex_assign rfl) ?_
                                    refine JL_nil ?_
                                    refine N_then ?_
                                    refine J_seq ?_
                                    refine J_seq ?_
                                    refine J_region ?_
                                    refine JL_q (wants_none rfl) rfl (ex_move rfl) ?_
                                    refine JL_q (wants_none rfl) rfl (ex_nilCheck rfl) ?_
                                    refine JL_q (wants_none rfl) rfl (ex_fieldAddr fi_47_1 rfl rfl) ?_
                                    refine JL_q (wants_none rfl) rfl (ex_load_bx 4 ti_45 rfl rfl rfl) ?_
                                    refine JL_q (wants_none rfl) rfl (ex_len_ow 2 Tryd.underlying45 rfl rfl) ?_
                                    refine JL_q (wants_none rfl) rfl (ex_sub rfl rfl) ?_
                                    refine JL_q (wants_none rfl) rfl (ex_assign rfl) ?_
                                    refine JL_nil ?_
                                    refine N_then ?_
                                    refine J_ctx (fun w hh => hh.freeze 2 rfl) ?_
                                    refine J_loop' (S := (List Int) × Int) (G := Value) (F_impl_SolveDominoes_L5 s101) (fun s156 g157 => [(8, .pointer (some ⟨b15, 0, none⟩)), (10, g157), (11, .int .i64 s156.2)]) (fun s156 g157 => [.rd v0_ p0, .rd g102 s101, mpf Value.string Value.bool b14 (mput s60.2.1 r99 true), .bx b15 47 [v0_, g102, .map (some b14), .bool s60.2.2.1], .ow 2 g157 s156.1]) (([] : List Int), (w64 ((s101.length : Int) - 1))) (.slice (some ⟨b155, 0, none⟩) 0 0) ⟨rfl, rfl, rfl, trivial⟩ [1, 2, 3, 4, 0] rfl rfl (fun s156 g157 => ?_) (fun s156 g157 => ?_)
                                    · unfold F_impl_SolveDominoes_L5
                                      refine J_seq ?_
                                      refine J_seq ?_
                                      refine J_region ?_
                                      refine JL_q (wants_none rfl) rfl (ex_move rfl) ?_
                                      refine JL_q (wants_none rfl) rfl (ex_nilCheck rfl) ?_
                                      refine JL_q (wants_none rfl) rfl (ex_fieldAddr fi_47_1 rfl rfl) ?_
                                      refine JL_q (wants_none rfl) rfl (ex_load_bx 3 ti_45 rfl rfl rfl) ?_
                                      refine JL_q (wants_none rfl) rfl (ex_move rfl) ?_
                                      refine JL_bnd fun y158 hy159 => ?_
                                      refine JL_st (wants_none rfl) rfl (st_index 1 Tryd.underlying45 ti_53 rfl rfl rfl hy159) (fun q160 => ?_)
                                      refine JL_st (wants_none rfl) rfl (st_field_pt 0 (Grest.at_parent _) fi_53_3 rfl rfl rfl) (fun q161 => ?_)
                                      refine JL_st (wants_none rfl) rfl (st_load_pt_o 0 (opens_int _) ti_3 rfl rfl) (fun _ => ?_)
                                      refine JL_q (wants_none rfl) rfl (ex_geq rfl rfl) ?_
                                      refine JL_nil ?_
                                      refine N_then ?_
                                      refine J_if rfl (fun h163 => ?_) (fun h163 => ?_)
                                      · refine J_skip ?_
                                        refine N_then ?_
                                        refine J_seq ?_
                                        refine J_block ?_
                                        refine J_region ?_
                                        refine JL_q (wants_none rfl) rfl (ex_move rfl) ?_
                                        refine JL_q (wants_none rfl) rfl (ex_move rfl) ?_
                                        refine JL_q (wants_none rfl) rfl (ex_nilCheck rfl) ?_
                                        refine JL_q (wants_none rfl) rfl (ex_fieldAddr fi_47_1 rfl rfl) ?_
                                        refine JL_q (wants_none rfl) rfl (ex_load_bx 5 ti_45 rfl rfl rfl) ?_
                                        refine JL_q (wants_none rfl) rfl (ex_move rfl) ?_
                                        refine JL_bnd fun y164 hy165 => ?_
                                        refine JL_st (wants_none rfl) rfl (st_index 3 Tryd.underlying45 ti_53 rfl rfl rfl hy165) (fun q166 => ?_)
                                        refine JL_st (wants_none rfl) rfl (st_field_pt 0 (Grest.at_domino _) fi_53_2 rfl rfl rfl) (fun q167 => ?_)
                                        refine JL_st (wants_none rfl) rfl (st_load_pt_o 0 (opens_int _) ti_3 rfl rfl) (fun _ => ?_)
                                        refine JL_st (wants_none rfl) rfl (st_buildSlice (vs := [.int .i64 y164.domino]) ([y164.domino] : List Int) Tryd.underlying24 ti_2 zi_2 rfl rfl rfl (fun w hh => ⟨(Rd.mk_int _ _ _), trivial⟩)) (fun b169 => ?_)
                                        refine JL_bnd fun z170 hz171 => ?_
                                        refine JL_st (wants_none rfl) rfl (st_append 9 Tryd.underlying24 ti_2 zi_2 rfl bi_2 rfl rfl rfl rfl (fun w hh => hh.src_ow 0 rfl) hz171) (fun v172 => ?_)
                                        refine JL_q (wants_none rfl) rfl (ex_assign rfl) ?_
                                        refine JL_nil ?_
                                        refine N_block ?_
                                        refine N_then ?_
                                        refine J_region ?_
                                        refine JL_q (wants_none rfl) rfl (ex_move rfl) ?_
                                        refine JL_q (wants_none rfl) rfl (ex_nilCheck rfl) ?_
                                        refine JL_q (wants_none rfl) rfl (ex_fieldAddr fi_47_1 rfl rfl) ?_
                                        refine JL_q (wants_none rfl) rfl (ex_load_bx 8 ti_45 rfl rfl rfl) ?_
                                        refine JL_q (wants_none rfl) rfl (ex_move rfl) ?_
                                        refine JL_bnd fun y173 hy174 => ?_
                                        refine JL_st (wants_none rfl) rfl (st_index 6 Tryd.underlying45 ti_53 rfl rfl rfl hy174) (fun q175 => ?_)
                                        refine JL_st (wants_none rfl) rfl (st_field_pt 0 (Grest.at_parent _) fi_53_3 rfl rfl rfl) (fun q176 => ?_)
                                        refine JL_st (wants_none rfl) rfl (st_load_pt_o 0 (opens_int _) ti_3 rfl rfl) (fun _ => ?_)
                                        refine JL_q (wants_none rfl) rfl (ex_assign rfl) ?_
                                        refine JL_nil ?_
                                        exact N_next' v172 ⟨rfl, rfl, rfl, trivial⟩ [7, 8, 9, 10, 11] rfl rfl
                                      · refine J_exit ?_
                                        refine N_then_exit ?_
                                        exact N_break' g157 ⟨rfl, rfl, rfl, trivial⟩ [2, 3, 4, 5, 6] rfl rfl
                                    · refine N_then ?_
                                      refine J_seq ?_
                                      refine J_seq ?_
                                      refine J_region ?_
                                      refine JL_q (wants_none rfl) rfl (ex_move rfl) ?_
                                      refine JL_q (wants_none rfl) rfl (ex_len_ow 4 Tryd.underlying24 rfl rfl) ?_
                                      refine JL_q (wants_none rfl) rfl (ex_gtr rfl rfl) ?_
                                      refine JL_nil ?_
                                      refine N_then ?_
                                      refine J_if rfl (fun h178 => ?_) (fun h178 => ?_)
                                      · refine J_seq ?_
                                        refine J_region ?_
                                        refine JL_q (wants_none rfl) rfl (ex_assign rfl) ?_
                                        refine JL_q (wants_none rfl) rfl (ex_assign rfl) ?_
                                        refine JL_nil ?_
                                        refine N_then ?_
                                        refine J_ret ?_
                                        refine N_then_ret ?_
                                        refine N_ctx (fun w hh => SH.ow_nil (α := Int) 2 hh) ?_
                                        exact N_ret2 rfl (rv_tmp rfl) (rv_tmp rfl) (fun w hh => ⟨(.slice none 0 0 : Value), rfl, hh.sel [0] rfl⟩)
                                      · refine J_skip ?_
                                        refine N_then ?_
                                        refine J_seq ?_
                                        refine J_region ?_
                                        refine JL_q (wants_none rfl) rfl (ex_move rfl) ?_
                                        refine JL_bnd fun r179 hr180 => ?_
                                        refine JL_call (wants_none rfl) rfl Tryd.call25 rfl (Ca_self (fun _ => rfl) fun w hh => c_impl_reversed _ w (fun _ hk => hk.elim) _ _ (hh.ow0 4 rfl) _ hr180) (fun x181 => ?_)
                                        refine JL_q (wants_none rfl) rfl (ex_assign rfl) ?_
                                        refine JL_q (wants_none rfl) rfl (ex_assign rfl) ?_
                                        refine JL_nil ?_
                                        refine N_then ?_
                                        refine J_ret ?_
                                        exact N_ret2 rfl (rv_tmp rfl) (rv_tmp rfl) (fun w hh => ⟨x181, rfl, hh.sel [0] rfl⟩)
                              · refine J_skip ?_
                                refine N_block ?_
                                refine N_then ?_
                                refine J_region ?_
                                refine JL_q (wants_none rfl) rfl (ex_move rfl) ?_
                                refine JL_q (wants_none rfl) rfl (ex_add rfl rfl) ?_
                                refine JL_q (wants_none rfl) rfl (ex_assign rfl) ?_
                                refine JL_nil ?_
                                exact N_next' g102 ⟨rfl, rfl, rfl, rfl, trivial⟩ [0, 1, 2, 3] rfl rfl
                · refine J_exit ?_
                  refine N_then_exit ?_
                  exact N_break' g61 ⟨rfl, rfl, rfl, rfl, trivial⟩ [0, 1, 2, 3] rfl rfl
              · refine N_then ?_
                refine J_seq ?_
                refine J_region ?_
                refine JL_q (wants_none rfl) rfl (ex_assign rfl) ?_
                refine JL_nil ?_
                refine N_then ?_
                refine J_ret ?_
                refine N_inl1 hK59 rfl (rv_tmp rfl) ?_
                refine JL_nil ?_
                refine N_then ?_
                refine J_if_false rfl rfl ?_
                refine J_skip ?_
                refine N_then ?_
                refine J_seq ?_
                refine J_region ?_
                refine JL_q (wants_none rfl) rfl (ex_move rfl) ?_
                refine JL_q (wants_none rfl) rfl (ex_nilCheck rfl) ?_
                refine JL_q (wants_none rfl) rfl (ex_fieldAddr fi_47_1 rfl rfl) ?_
                refine JL_q (wants_none rfl) rfl (ex_load_bx 3 ti_45 rfl rfl rfl) ?_
                refine JL_q (wants_none rfl) rfl (ex_len_ow 1 Tryd.underlying45 rfl rfl) ?_
                refine JL_q (wants_none rfl) rfl (ex_eql rfl rfl) ?_
                refine JL_nil ?_
                refine N_then ?_
                refine J_if rfl (fun h182 => ?_) (fun h182 => ?_)
                · refine J_seq ?_
                  refine J_region ?_
                  refine JL_q (wants_none rfl) rfl (ex_load_stn1 ti_49 hS_) ?_
                  refine JL_q (wants_none rfl) rfl (ex_assign rfl) ?_
                  refine JL_nil ?_
                  refine N_then ?_
                  refine J_ret ?_
                  refine N_block_ret ?_
                  refine N_then_ret ?_
                  refine N_round_reti ?_
                  refine N_then_ret ?_
                  refine N_inl1 hK16 rfl (rv_tmp rfl) ?_
                  refine JL_q (wants_none rfl) rfl (ex_assign rfl) ?_
                  refine JL_nil ?_
                  refine N_then ?_
                  refine J_seq ?_
                  refine J_block ?_
                  refine J_seq ?_
                  refine J_region ?_
                  refine JL_q (wants_none rfl) rfl (ex_move rfl) ?_
                  refine JL_q (wants_none rfl) rfl (ex_load_stn0 ti_49 hS_) ?_
                  refine JL_bnd fun r183 hr184 => ?_
                  refine JL_call (wants_none rfl) rfl Tryd.call24 rfl (Ca_of0 fun w hh => c_errors_Is _ w (fun _ hk => hk.elim) (hS_.of hh) 2 1 _ hr184) (fun _ => ?_)
                  refine JL_q (wants_none rfl) rfl (ex_assign rfl) ?_
                  refine JL_nil ?_
                  refine N_then ?_
                  refine J_if rfl (fun h185 => ?_) (fun h185 => ?_)
                  · refine J_seq ?_
                    refine J_region ?_
                    refine JL_q (wants_none rfl) rfl (ex_assign rfl) ?_
                    refine JL_q (wants_none rfl) rfl (ex_assign rfl) ?_
                    refine JL_nil ?_
                    refine N_then ?_
                    refine J_ret ?_
                    refine N_block_ret ?_
                    refine N_then_ret ?_
                    refine N_ctx (fun w hh => SH.ow_nil (α := Int) 2 hh) ?_
                    exact N_ret2 rfl (rv_tmp rfl) (rv_tmp rfl) (fun w hh => ⟨(.slice none 0 0 : Value), rfl, hh.sel [0] rfl⟩)
                  · refine J_seq ?_
                    refine J_region ?_
                    refine JL_q (wants_none rfl) rfl (ex_move rfl) ?_
                    refine JL_q (wants_none rfl) rfl (ex_load_stn1 ti_49 hS_) ?_
                    refine JL_bnd fun r186 hr187 => ?_
                    refine JL_call (wants_none rfl) rfl Tryd.call24 rfl (Ca_of0 fun w hh => c_errors_Is _ w (fun _ hk => hk.elim) (hS_.of hh) 2 2 _ hr187) (fun _ => ?_)
                    refine JL_q (wants_none rfl) rfl (ex_assign rfl) ?_
                    refine JL_nil ?_
                    refine N_then ?_
                    refine J_if rfl (fun h188 => ?_) (fun h188 => ?_)
                    · refine J_seq ?_
                      refine J_region ?_
                      refine JL_q (wants_none rfl) rfl (ex_assign rfl) ?_
                      refine JL_q (wants_none rfl) rfl (ex_assign rfl) ?_
                      refine JL_nil ?_
                      refine N_then ?_
                      refine J_ret ?_
                      refine N_block_ret ?_
                      refine N_then_ret ?_
                      refine N_ctx (fun w hh => SH.ow_nil (α := Int) 2 hh) ?_
                      exact N_ret2 rfl (rv_tmp rfl) (rv_tmp rfl) (fun w hh => ⟨(.slice none 0 0 : Value), rfl, hh.sel [0] rfl⟩)
                    · refine J_skip ?_
                      refine N_block ?_
                      refine N_then ?_
                      refine J_seq ?_
                      refine J_region ?_
                      refine JL_st (wants_none rfl) rfl (st_buildSlice (vs := []) ([] : List Int) Tryd.underlying24 ti_2 zi_2 rfl rfl rfl (fun w hh => trivial)) (fun b189 => ?_)
                      refine JL_q (wants_none rfl) rfl (ex_assign rfl) ?_
                      refine JL_nil ?_
                      refine N_then ?_
                      refine J_seq ?_
                      refine J_seq ?_
                      refine J_region ?_
                      refine JL_q (wants_none rfl) rfl (ex_move rfl) ?_
                      refine JL_q (wants_none rfl) rfl (ex_nilCheck rfl) ?_
                      refine JL_q (wants_none rfl) rfl (ex_fieldAddr fi_47_1 rfl rfl) ?_
                      refine JL_q (wants_none rfl) rfl (ex_load_bx 4 ti_45 rfl rfl rfl) ?_
                      refine JL_q (wants_none rfl) rfl (ex_len_ow 2 Tryd.underlying45 rfl rfl) ?_
                      refine JL_q (wants_none rfl) rfl (ex_sub rfl rfl) ?_
                      refine JL_q (wants_none rfl) rfl (ex_assign rfl) ?_
                      refine JL_nil ?_
                      refine N_then ?_
                      refine J_ctx (fun w hh => hh.freeze 2 rfl) ?_
                      refine J_loop' (S := (List Int) × Int) (G := Value) (F_impl_SolveDominoes_L6 s60) (fun s190 g191 => [(8, .pointer (some ⟨b15, 0, none⟩)), (10, g191), (11, .int .i64 s190.2)]) (fun s190 g191 => [.rd v0_ p0, .rd g61 s60.1, mpf Value.string Value.bool b14 s60.2.1, .bx b15 47 [v0_, g61, .map (some b14), .bool s60.2.2.1], .ow 2 g191 s190.1]) (([] : List Int), (w64 ((s60.1.length : Int) - 1))) (.slice (some ⟨b189, 0, none⟩) 0 0) ⟨rfl, rfl, rfl, trivial⟩ [1, 2, 3, 4, 0] rfl rfl (fun s190 g191 => ?_) (fun s190 g191 => ?_)
                      · unfold F_impl_SolveDominoes_L6
                        refine J_seq ?_
                        refine J_seq ?_
                        refine J_region ?_
                        refine JL_q (wants_none rfl) rfl (ex_move rfl) ?_
                        refine JL_q (wants_none rfl) rfl (ex_nilCheck rfl) ?_
                        refine JL_q (wants_none rfl) rfl (ex_fieldAddr fi_47_1 rfl rfl) ?_
                        refine JL_q (wants_none rfl) rfl (ex_load_bx 3 ti_45 rfl rfl rfl) ?_
                        refine JL_q (wants_none rfl) rfl (ex_move rfl) ?_
                        refine JL_bnd fun y192 hy193 => ?_
                        refine JL_st (wants_none rfl) rfl (st_index 1 Tryd.underlying45 ti_53 rfl rfl rfl hy193) (fun q194 => ?_)
                        refine JL_st (wants_none rfl) rfl (st_field_pt 0 (Grest.at_parent _) fi_53_3 rfl rfl rfl) (fun q195 => ?_)
                        refine JL_st (wants_none rfl) rfl (st_load_pt_o 0 (opens_int _) ti_3 rfl rfl) (fun _ => ?_)
                        refine JL_q (wants_none rfl) rfl (ex_geq rfl rfl) ?_
                        refine JL_nil ?_
                        refine N_then ?_
                        refine J_if rfl (fun h197 => ?_) (fun h197 => ?_)
                        · refine J_skip ?_
                          refine N_then ?_
                          refine J_seq ?_
                          refine J_block ?_
                          refine J_region ?_
                          refine JL_q (wants_none rfl) rfl (ex_move rfl) ?_
                          refine JL_q (wants_none rfl) rfl (ex_move rfl) ?_
                          refine JL_q (wants_none rfl) rfl (ex_nilCheck rfl) ?_
                          refine JL_q (wants_none rfl) rfl (ex_fieldAddr fi_47_1 rfl rfl) ?_
                          refine JL_q (wants_none rfl) rfl (ex_load_bx 5 ti_45 rfl rfl rfl) ?_
                          refine JL_q (wants_none rfl) rfl (ex_move rfl) ?_
                          refine JL_bnd fun y198 hy199 => ?_
                          refine JL_st (wants_none rfl) rfl (st_index 3 Tryd.underlying45 ti_53 rfl rfl rfl hy199) (fun q200 => ?_)
                          refine JL_st (wants_none rfl) rfl (st_field_pt 0 (Grest.at_domino _) fi_53_2 rfl rfl rfl) (fun q201 => ?_)
                          refine JL_st (wants_none rfl) rfl (st_load_pt_o 0 (opens_int _) ti_3 rfl rfl) (fun _ => ?_)
                          refine JL_st (wants_none rfl) rfl (st_buildSlice (vs := [.int .i64 y198.domino]) ([y198.domino] : List Int) Tryd.underlying24 ti_2 zi_2 rfl rfl rfl (fun w hh => ⟨(Rd.mk_int _ _ _), trivial⟩)) (fun b203 => ?_)
                          refine JL_bnd fun z204 hz205 => ?_
                          refine JL_st (wants_none rfl) rfl (st_append 9 Tryd.underlying24 ti_2 zi_2 rfl bi_2 rfl rfl rfl rfl (fun w hh => hh.src_ow 0 rfl) hz205) (fun v206 => ?_)
                          refine JL_q (wants_none rfl) rfl (ex_assign rfl) ?_
                          refine JL_nil ?_
                          refine N_block ?_
                          refine N_then ?_
                          refine J_region ?_
                          refine JL_q (wants_none rfl) rfl (ex_move rfl) ?_
                          refine JL_q (wants_none rfl) rfl (ex_nilCheck rfl) ?_
                          refine JL_q (wants_none rfl) rfl (ex_fieldAddr fi_47_1 rfl rfl) ?_
                          refine JL_q (wants_none rfl) rfl (ex_load_bx 8 ti_45 rfl rfl rfl) ?_
                          refine JL_q (wants_none rfl) rfl (ex_move rfl) ?_
                          refine JL_bnd fun y207 hy208 => ?_
                          refine JL_st (wants_none rfl) rfl (st_index 6 Tryd.underlying45 ti_53 rfl rfl rfl hy208) (fun q209 => ?_)
                          refine JL_st (wants_none rfl) rfl (st_field_pt 0 (Grest.at_parent _) fi_53_3 rfl rfl rfl) (fun q210 => ?_)
                          refine JL_st (wants_none rfl) rfl (st_load_pt_o 0 (opens_int _) ti_3 rfl rfl) (fun _ => ?_)
                          refine JL_q (wants_none rfl) rfl (ex_assign rfl) ?_
                          refine JL_nil ?_
                          exact N_next' v206 ⟨rfl, rfl, rfl, trivial⟩ [7, 8, 9, 10, 11] rfl rfl
                        · refine J_exit ?_
                          refine N_then_exit ?_
                          exact N_break' g191 ⟨rfl, rfl, rfl, trivial⟩ [2, 3, 4, 5, 6] rfl rfl
                      · refine N_then ?_
                        refine J_seq ?_
                        refine J_seq ?_
                        refine J_region ?_
                        refine JL_q (wants_none rfl) rfl (ex_move rfl) ?_
                        refine JL_q (wants_none rfl) rfl (ex_len_ow 4 Tryd.underlying24 rfl rfl) ?_
                        refine JL_q (wants_none rfl) rfl (ex_gtr rfl rfl) ?_
                        refine JL_nil ?_
                        refine N_then ?_
                        refine J_if rfl (fun h212 => ?_) (fun h212 => ?_)
                        · refine J_seq ?_
                          refine J_region ?_
                          refine JL_q (wants_none rfl) rfl (ex_assign rfl) ?_
                          refine JL_q (wants_none rfl) rfl (ex_assign rfl) ?_
                          refine JL_nil ?_
                          refine N_then ?_
                          refine J_ret ?_
                          refine N_then_ret ?_
                          refine N_ctx (fun w hh => SH.ow_nil (α := Int) 2 hh) ?_
                          exact N_ret2 rfl (rv_tmp rfl) (rv_tmp rfl) (fun w hh => ⟨(.slice none 0 0 : Value), rfl, hh.sel [0] rfl⟩)
                        · refine J_skip ?_
                          refine N_then ?_
                          refine J_seq ?_
                          refine J_region ?_
                          refine JL_q (wants_none rfl) rfl (ex_move rfl) ?_
                          refine JL_bnd fun r213 hr214 => ?_
                          refine JL_call (wants_none rfl) rfl Tryd.call25 rfl (Ca_self (fun _ => rfl) fun w hh => c_impl_reversed _ w (fun _ hk => hk.elim) _ _ (hh.ow0 4 rfl) _ hr214) (fun x215 => ?_)
                          refine JL_q (wants_none rfl) rfl (ex_assign rfl) ?_
                          refine JL_q (wants_none rfl) rfl (ex_assign rfl) ?_
                          refine JL_nil ?_
                          refine N_then ?_
                          refine J_ret ?_
                          exact N_ret2 rfl (rv_tmp rfl) (rv_tmp rfl) (fun w hh => ⟨x215, rfl, hh.sel [0] rfl⟩)
                · refine J_skip ?_
                  refine N_block ?_
                  refine N_then ?_
                  refine J_region ?_
                  refine JL_q (wants_none rfl) rfl (ex_move rfl) ?_
                  refine JL_q (wants_none rfl) rfl (ex_add rfl rfl) ?_
                  refine JL_q (wants_none rfl) rfl (ex_assign rfl) ?_
                  refine JL_nil ?_
                  exact N_next' g61 ⟨rfl, rfl, rfl, rfl, trivial⟩ [0, 1, 2, 3] rfl rfl
        · refine J_exit ?_
          refine N_then_exit ?_
          exact N_break' g19 ⟨rfl, rfl, rfl, rfl, trivial⟩ [0, 1, 2, 3] rfl rfl
      · refine N_then ?_
        refine J_seq ?_
        refine J_seq ?_
        refine J_region ?_
        refine JL_q (wants_none rfl) rfl (ex_move rfl) ?_
        refine JL_q (wants_none rfl) rfl (ex_nilCheck rfl) ?_
        refine JL_q (wants_none rfl) rfl (ex_fieldAddr fi_47_3 rfl rfl) ?_
        refine JL_q (wants_none rfl) rfl (ex_load_bx 3 ti_4 rfl rfl rfl) ?_
        refine JL_nil ?_
        refine N_then ?_
        refine J_if rfl (fun h216 => ?_) (fun h216 => ?_)
        · refine J_seq ?_
          refine J_region ?_
          refine JL_q (wants_none rfl) rfl (ex_load_stn1 ti_49 hS_) ?_
          refine JL_q (wants_none rfl) rfl (ex_assign rfl) ?_
          refine JL_nil ?_
          refine N_then ?_
          refine J_ret ?_
          refine N_then_ret ?_
          refine N_inl1 hK16 rfl (rv_tmp rfl) ?_
          refine JL_q (wants_none rfl) rfl (ex_assign rfl) ?_
          refine JL_nil ?_
          refine N_then ?_
          refine J_seq ?_
          refine J_block ?_
          refine J_seq ?_
          refine J_region ?_
          refine JL_q (wants_none rfl) rfl (ex_move rfl) ?_
          refine JL_q (wants_none rfl) rfl (ex_load_stn0 ti_49 hS_) ?_
          refine JL_bnd fun r217 hr218 => ?_
          refine JL_call (wants_none rfl) rfl Tryd.call24 rfl (Ca_of0 fun w hh => c_errors_Is _ w (fun _ hk => hk.elim) (hS_.of hh) 2 1 _ hr218) (fun _ => ?_)
          refine JL_q (wants_none rfl) rfl (ex_assign rfl) ?_
          refine JL_nil ?_
          refine N_then ?_
          refine J_if rfl (fun h219 => ?_) (fun h219 => ?_)
          · refine J_seq ?_
            refine J_region ?_
            refine JL_q (wants_none rfl) rfl (ex_assign rfl) ?_
            refine JL_q (wants_none rfl) rfl (ex_assign rfl) ?_
            refine JL_nil ?_
            refine N_then ?_
            refine J_ret ?_
            refine N_block_ret ?_
            refine N_then_ret ?_
            refine N_ctx (fun w hh => SH.ow_nil (α := Int) 2 hh) ?_
            exact N_ret2 rfl (rv_tmp rfl) (rv_tmp rfl) (fun w hh => ⟨(.slice none 0 0 : Value), rfl, hh.sel [0] rfl⟩)
          · refine J_seq ?_
            refine J_region ?_
            refine JL_q (wants_none rfl) rfl (ex_move rfl) ?_
            refine JL_q (wants_none rfl) rfl (ex_load_stn1 ti_49 hS_) ?_
            refine JL_bnd fun r220 hr221 => ?_
            refine JL_call (wants_none rfl) rfl Tryd.call24 rfl (Ca_of0 fun w hh => c_errors_Is _ w (fun _ hk => hk.elim) (hS_.of hh) 2 2 _ hr221) (fun _ => ?_)
            refine JL_q (wants_none rfl) rfl (ex_assign rfl) ?_
            refine JL_nil ?_
            refine N_then ?_
            refine J_if rfl (fun h222 => ?_) (fun h222 => ?_)
            · refine J_seq ?_
              refine J_region ?_
              refine JL_q (wants_none rfl) rfl (ex_assign rfl) ?_
              refine JL_q (wants_none rfl) rfl (ex_assign rfl) ?_
              refine JL_nil ?_
              refine N_then ?_
              refine J_ret ?_
              refine N_block_ret ?_
              refine N_then_ret ?_
              refine N_ctx (fun w hh => SH.ow_nil (α := Int) 2 hh) ?_
              exact N_ret2 rfl (rv_tmp rfl) (rv_tmp rfl) (fun w hh => ⟨(.slice none 0 0 : Value), rfl, hh.sel [0] rfl⟩)
            · refine J_skip ?_
              refine N_block ?_
              refine N_then ?_
              refine J_seq ?_
              refine J_region ?_
              refine JL_st (wants_none rfl) rfl (st_buildSlice (vs := []) ([] : List Int) Tryd.underlying24 ti_2 zi_2 rfl rfl rfl (fun w hh => trivial)) (fun b223 => ?_)
              refine JL_q (wants_none rfl) rfl (ex_assign rfl) ?_
              refine JL_nil ?_
              refine N_then ?_
              refine J_seq ?_
              refine J_seq ?_
              refine J_region ?_
              refine JL_q (wants_none rfl) rfl (ex_move rfl) ?_
              refine JL_q (wants_none rfl) rfl (ex_nilCheck rfl) ?_
              refine JL_q (wants_none rfl) rfl (ex_fieldAddr fi_47_1 rfl rfl) ?_
              refine JL_q (wants_none rfl) rfl (ex_load_bx 4 ti_45 rfl rfl rfl) ?_
              refine JL_q (wants_none rfl) rfl (ex_len_ow 2 Tryd.underlying45 rfl rfl) ?_
              refine JL_q (wants_none rfl) rfl (ex_sub rfl rfl) ?_
              refine JL_q (wants_none rfl) rfl (ex_assign rfl) ?_
              refine JL_nil ?_
              refine N_then ?_
              refine J_ctx (fun w hh => hh.freeze 2 rfl) ?_
              refine J_loop' (S := (List Int) × Int) (G := Value) (F_impl_SolveDominoes_L7 s18) (fun s224 g225 => [(8, .pointer (some ⟨b15, 0, none⟩)), (10, g225), (11, .int .i64 s224.2)]) (fun s224 g225 => [.rd v0_ p0, .rd g19 s18.1, mpf Value.string Value.bool b14 s18.2.1, .bx b15 47 [v0_, g19, .map (some b14), .bool s18.2.2.1], .ow 2 g225 s224.1]) (([] : List Int), (w64 ((s18.1.length : Int) - 1))) (.slice (some ⟨b223, 0, none⟩) 0 0) ⟨rfl, rfl, rfl, trivial⟩ [1, 2, 3, 4, 0] rfl rfl (fun s224 g225 => ?_) (fun s224 g225 => ?_)
              · unfold F_impl_SolveDominoes_L7
                refine J_seq ?_
                refine J_seq ?_
                refine J_region ?_
                refine JL_q (wants_none rfl) rfl (ex_move rfl) ?_
                refine JL_q (wants_none rfl) rfl (ex_nilCheck rfl) ?_
                refine JL_q (wants_none rfl) rfl (ex_fieldAddr fi_47_1 rfl rfl) ?_
                refine JL_q (wants_none rfl) rfl (ex_load_bx 3 ti_45 rfl rfl rfl) ?_
                refine JL_q (wants_none rfl) rfl (ex_move rfl) ?_
                refine JL_bnd fun y226 hy227 => ?_
                refine JL_st (wants_none rfl) rfl (st_index 1 Tryd.underlying45 ti_53 rfl rfl rfl hy227) (fun q228 => ?_)
                refine JL_st (wants_none rfl) rfl (st_field_pt 0 (Grest.at_parent _) fi_53_3 rfl rfl rfl) (fun q229 => ?_)
                refine JL_st (wants_none rfl) rfl (st_load_pt_o 0 (opens_int _) ti_3 rfl rfl) (fun _ => ?_)
                refine JL_q (wants_none rfl) rfl (ex_geq rfl rfl) ?_
                refine JL_nil ?_
                refine N_then ?_
                refine J_if rfl (fun h231 => ?_) (fun h231 => ?_)
                · refine J_skip ?_
                  refine N_then ?_
                  refine J_seq ?_
                  refine J_block ?_
                  refine J_region ?_
                  refine JL_q (wants_none rfl) rfl (ex_move rfl) ?_
                  refine JL_q (wants_none rfl) rfl (ex_move rfl) ?_
                  refine JL_q (wants_none rfl) rfl (ex_nilCheck rfl) ?_
                  refine JL_q (wants_none rfl) rfl (ex_fieldAddr fi_47_1 rfl rfl) ?_
                  refine JL_q (wants_none rfl) rfl (ex_load_bx 5 ti_45 rfl rfl rfl) ?_
                  refine JL_q (wants_none rfl) rfl (ex_move rfl) ?_
                  refine JL_bnd fun y232 hy233 => ?_
                  refine JL_st (wants_none rfl) rfl (st_index 3 Tryd.underlying45 ti_53 rfl rfl rfl hy233) (fun q234 => ?_)
                  refine JL_st (wants_none rfl) rfl (st_field_pt 0 (Grest.at_domino _) fi_53_2 rfl rfl rfl) (fun q235 => ?_)
                  refine JL_st (wants_none rfl) rfl (st_load_pt_o 0 (opens_int _) ti_3 rfl rfl) (fun _ => ?_)
                  refine JL_st (wants_none rfl) rfl (st_buildSlice (vs := [.int .i64 y232.domino]) ([y232.domino] : List Int) Tryd.underlying24 ti_2 zi_2 rfl rfl rfl (fun w hh => ⟨(Rd.mk_int _ _ _), trivial⟩)) (fun b237 => ?_)
                  refine JL_bnd fun z238 hz239 => ?_
                  refine JL_st (wants_none rfl) rfl (st_append 9 Tryd.underlying24 ti_2 zi_2 rfl bi_2 rfl rfl rfl rfl (fun w hh => hh.src_ow 0 rfl) hz239) (fun v240 => ?_)
                  refine JL_q (wants_none rfl) rfl (ex_assign rfl) ?_
                  refine JL_nil ?_
                  refine N_block ?_
                  refine N_then ?_
                  refine J_region ?_
                  refine JL_q (wants_none rfl) rfl (ex_move rfl) ?_
                  refine JL_q (wants_none rfl) rfl (ex_nilCheck rfl) ?_
                  refine JL_q (wants_none rfl) rfl (ex_fieldAddr fi_47_1 rfl rfl) ?_
                  refine JL_q (wants_none rfl) rfl (ex_load_bx 8 ti_45 rfl rfl rfl) ?_
                  refine JL_q (wants_none rfl) rfl (ex_move rfl) ?_
                  refine JL_bnd fun y241 hy242 => ?_
                  refine JL_st (wants_none rfl) rfl (st_index 6 Tryd.underlying45 ti_53 rfl rfl rfl hy242) (fun q243 => ?_)
                  refine JL_st (wants_none rfl) rfl (st_field_pt 0 (Grest.at_parent _) fi_53_3 rfl rfl rfl) (fun q244 => ?_)
                  refine JL_st (wants_none rfl) rfl (st_load_pt_o 0 (opens_int _) ti_3 rfl rfl) (fun _ => ?_)
                  refine JL_q (wants_none rfl) rfl (ex_assign rfl) ?_
                  refine JL_nil ?_
                  exact N_next' v240 ⟨rfl, rfl, rfl, trivial⟩ [7, 8, 9, 10, 11] rfl rfl
                · refine J_exit ?_
                  refine N_then_exit ?_
                  exact N_break' g225 ⟨rfl, rfl, rfl, trivial⟩ [2, 3, 4, 5, 6] rfl rfl
              · refine N_then ?_
                refine J_seq ?_
                refine J_seq ?_
                refine J_region ?_
                refine JL_q (wants_none rfl) rfl (ex_move rfl) ?_
                refine JL_q (wants_none rfl) rfl (ex_len_ow 4 Tryd.underlying24 rfl rfl) ?_
                refine JL_q (wants_none rfl) rfl (ex_gtr rfl rfl) ?_
                refine JL_nil ?_
                refine N_then ?_
                refine J_if rfl (fun h246 => ?_) (fun h246 => ?_)
                · refine J_seq ?_
                  refine J_region ?_
                  refine JL_q (wants_none rfl) rfl (ex_assign rfl) ?_
                  refine JL_q (wants_none rfl) rfl (ex_assign rfl) ?_
                  refine JL_nil ?_
                  refine N_then ?_
                  refine J_ret ?_
                  refine N_then_ret ?_
                  refine N_ctx (fun w hh => SH.ow_nil (α := Int) 2 hh) ?_
                  exact N_ret2 rfl (rv_tmp rfl) (rv_tmp rfl) (fun w hh => ⟨(.slice none 0 0 : Value), rfl, hh.sel [0] rfl⟩)
                · refine J_skip ?_
                  refine N_then ?_
                  refine J_seq ?_
                  refine J_region ?_
                  refine JL_q (wants_none rfl) rfl (ex_move rfl) ?_
                  refine JL_bnd fun r247 hr248 => ?_
                  refine JL_call (wants_none rfl) rfl Tryd.call25 rfl (Ca_self (fun _ => rfl) fun w hh => c_impl_reversed _ w (fun _ hk => hk.elim) _ _ (hh.ow0 4 rfl) _ hr248) (fun x249 => ?_)
                  refine JL_q (wants_none rfl) rfl (ex_assign rfl) ?_
                  refine JL_q (wants_none rfl) rfl (ex_assign rfl) ?_
                  refine JL_nil ?_
                  refine N_then ?_
                  refine J_ret ?_
                  exact N_ret2 rfl (rv_tmp rfl) (rv_tmp rfl) (fun w hh => ⟨x249, rfl, hh.sel [0] rfl⟩)
        · refine J_skip ?_
          refine N_then ?_
          refine J_seq ?_
          refine J_region ?_
          refine JL_q (wants_none rfl) rfl (ex_load_stn0 ti_49 hS_) ?_
          refine JL_q (wants_none rfl) rfl (ex_assign rfl) ?_
          refine JL_nil ?_
          refine N_then ?_
          refine J_ret ?_
          refine N_inl1 hK16 rfl (rv_tmp rfl) ?_
          refine JL_q (wants_none rfl) rfl (ex_assign rfl) ?_
          refine JL_nil ?_
          refine N_then ?_
          refine J_seq ?_
          refine J_block ?_
          refine J_seq ?_
          refine J_region ?_
          refine JL_q (wants_none rfl) rfl (ex_move rfl) ?_
          refine JL_q (wants_none rfl) rfl (ex_load_stn0 ti_49 hS_) ?_
          refine JL_bnd fun r250 hr251 => ?_
          refine JL_call (wants_none rfl) rfl Tryd.call24 rfl (Ca_of0 fun w hh => c_errors_Is _ w (fun _ hk => hk.elim) (hS_.of hh) 1 1 _ hr251) (fun _ => ?_)
          refine JL_q (wants_none rfl) rfl (ex_assign rfl) ?_
          refine JL_nil ?_
          refine N_then ?_
          refine J_if rfl (fun h252 => ?_) (fun h252 => ?_)
          · refine J_seq ?_
            refine J_region ?_
            refine JL_q (wants_none rfl) rfl (ex_assign rfl) ?_
            refine JL_q (wants_none rfl) rfl (ex_assign rfl) ?_
            refine JL_nil ?_
            refine N_then ?_
            refine J_ret ?_
            refine N_block_ret ?_
            refine N_then_ret ?_
            refine N_ctx (fun w hh => SH.ow_nil (α := Int) 2 hh) ?_
            exact N_ret2 rfl (rv_tmp rfl) (rv_tmp rfl) (fun w hh => ⟨(.slice none 0 0 : Value), rfl, hh.sel [0] rfl⟩)
          · refine J_seq ?_
            refine J_region ?_
            refine JL_q (wants_none rfl) rfl (ex_move rfl) ?_
            refine JL_q (wants_none rfl) rfl (ex_load_stn1 ti_49 hS_) ?_
            refine JL_bnd fun r253 hr254 => ?_
            refine JL_call (wants_none rfl) rfl Tryd.call24 rfl (Ca_of0 fun w hh => c_errors_Is _ w (fun _ hk => hk.elim) (hS_.of hh) 1 2 _ hr254) (fun _ => ?_)
            refine JL_q (wants_none rfl) rfl (ex_assign rfl) ?_
            refine JL_nil ?_
            refine N_then ?_
            refine J_if rfl (fun h255 => ?_) (fun h255 => ?_)
            · refine J_seq ?_
              refine J_region ?_
              refine JL_q (wants_none rfl) rfl (ex_assign rfl) ?_
              refine JL_q (wants_none rfl) rfl (ex_assign rfl) ?_
              refine JL_nil ?_
              refine N_then ?_
              refine J_ret ?_
              refine N_block_ret ?_
              refine N_then_ret ?_
              refine N_ctx (fun w hh => SH.ow_nil (α := Int) 2 hh) ?_
              exact N_ret2 rfl (rv_tmp rfl) (rv_tmp rfl) (fun w hh => ⟨(.slice none 0 0 : Value), rfl, hh.sel [0] rfl⟩)
            · refine J_skip ?_
              refine N_block ?_
              refine N_then ?_
              refine J_seq ?_
              refine J_region ?_
              refine JL_st (wants_none rfl) rfl (st_buildSlice (vs := []) ([] : List Int) Tryd.underlying24 ti_2 zi_2 rfl rfl rfl (fun w hh => trivial)) (fun b256 => ?_)
              refine JL_q (wants_none rfl) rfl (ex_assign rfl) ?_
              refine JL_nil ?_
              refine N_then ?_
              refine J_seq ?_
              refine J_seq ?_
              refine J_region ?_
              refine JL_q (wants_none rfl) rfl (ex_move rfl) ?_
              refine JL_q (wants_none rfl) rfl (ex_nilCheck rfl) ?_
              refine JL_q (wants_none rfl) rfl (ex_fieldAddr fi_47_1 rfl rfl) ?_
              refine JL_q (wants_none rfl) rfl (ex_load_bx 4 ti_45 rfl rfl rfl) ?_
              refine JL_q (wants_none rfl) rfl (ex_len_ow 2 Tryd.underlying45 rfl rfl) ?_
              refine JL_q (wants_none rfl) rfl (ex_sub rfl rfl) ?_
              refine JL_q (wants_none rfl) rfl (ex_assign rfl) ?_
              refine JL_nil ?_
              refine N_then ?_
              refine J_ctx (fun w hh => hh.freeze 2 rfl) ?_
              refine J_loop' (S := (List Int) × Int) (G := Value) (F_impl_SolveDominoes_L8 s18) (fun s257 g258 => [(8, .pointer (some ⟨b15, 0, none⟩)), (10, g258), (11, .int .i64 s257.2)]) (fun s257 g258 => [.rd v0_ p0, .rd g19 s18.1, mpf Value.string Value.bool b14 s18.2.1, .bx b15 47 [v0_, g19, .map (some b14), .bool s18.2.2.1], .ow 2 g258 s257.1]) (([] : List Int), (w64 ((s18.1.length : Int) - 1))) (.slice (some ⟨b256, 0, none⟩) 0 0) ⟨rfl, rfl, rfl, trivial⟩ [1, 2, 3, 4, 0] rfl rfl (fun s257 g258 => ?_) (fun s257 g258 => ?_)
              · unfold F_impl_SolveDominoes_L8
                refine J_seq ?_
                refine J_seq ?_
                refine J_region ?_
                refine JL_q (wants_none rfl) rfl (ex_move rfl) ?_
                refine JL_q (wants_none rfl) rfl (ex_nilCheck rfl) ?_
                refine JL_q (wants_none rfl) rfl (ex_fieldAddr fi_47_1 rfl rfl) ?_
                refine JL_q (wants_none rfl) rfl (ex_load_bx 3 ti_45 rfl rfl rfl) ?_
                refine JL_q (wants_none rfl) rfl (ex_move rfl) ?_
                refine JL_bnd fun y259 hy260 => ?_
                refine JL_st (wants_none rfl) rfl (st_index 1 Tryd.underlying45 ti_53 rfl rfl rfl hy260) (fun q261 => ?_)
                refine JL_st (wants_none rfl) rfl (st_field_pt 0 (Grest.at_parent _) fi_53_3 rfl rfl rfl) (fun q262 => ?_)
                refine JL_st (wants_none rfl) rfl (st_load_pt_o 0 (opens_int _) ti_3 rfl rfl) (fun _ => ?_)
                refine JL_q (wants_none rfl) rfl (ex_geq rfl rfl) ?_
                refine JL_nil ?_
                refine N_then ?_
                refine J_if rfl (fun h264 => ?_) (fun h264 => ?_)
                · refine J_skip ?_
                  refine N_then ?_
                  refine J_seq ?_
                  refine J_block ?_
                  refine J_region ?_
                  refine JL_q (wants_none rfl) rfl (ex_move rfl) ?_
                  refine JL_q (wants_none rfl) rfl (ex_move rfl) ?_
                  refine JL_q (wants_none rfl) rfl (ex_nilCheck rfl) ?_
                  refine JL_q (wants_none rfl) rfl (ex_fieldAddr fi_47_1 rfl rfl) ?_
                  refine JL_q (wants_none rfl) rfl (ex_load_bx 5 ti_45 rfl rfl rfl) ?_
                  refine JL_q (wants_none rfl) rfl (ex_move rfl) ?_
                  refine JL_bnd fun y265 hy266 => ?_
                  refine JL_st (wants_none rfl) rfl (st_index 3 Tryd.underlying45 ti_53 rfl rfl rfl hy266) (fun q267 => ?_)
                  refine JL_st (wants_none rfl) rfl (st_field_pt 0 (Grest.at_domino _) fi_53_2 rfl rfl rfl) (fun q268 => ?_)
                  refine JL_st (wants_none rfl) rfl (st_load_pt_o 0 (opens_int _) ti_3 rfl rfl) (fun _ => ?_)
                  refine JL_st (wants_none rfl) rfl (st_buildSlice (vs := [.int .i64 y265.domino]) ([y265.domino] : List Int) Tryd.underlying24 ti_2 zi_2 rfl rfl rfl (fun w hh => ⟨(Rd.mk_int _ _ _), trivial⟩)) (fun b270 => ?_)
                  refine JL_bnd fun z271 hz272 => ?_
                  refine JL_st (wants_none rfl) rfl (st_append 9 Tryd.underlying24 ti_2 zi_2 rfl bi_2 rfl rfl rfl rfl (fun w hh => hh.src_ow 0 rfl) hz272) (fun v273 => ?_)
                  refine JL_q (wants_none rfl) rfl (ex_assign rfl) ?_
                  refine JL_nil ?_
                  refine N_block ?_
                  refine N_then ?_
                  refine J_region ?_
                  refine JL_q (wants_none rfl) rfl (ex_move rfl) ?_
                  refine JL_q (wants_none rfl) rfl (ex_nilCheck rfl) ?_
                  refine JL_q (wants_none rfl) rfl (ex_fieldAddr fi_47_1 rfl rfl) ?_
                  refine JL_q (wants_none rfl) rfl (ex_load_bx 8 ti_45 rfl rfl rfl) ?_
                  refine JL_q (wants_none rfl) rfl (ex_move rfl) ?_
                  refine JL_bnd fun y274 hy275 => ?_
                  refine JL_st (wants_none rfl) rfl (st_index 6 Tryd.underlying45 ti_53 rfl rfl rfl hy275) (fun q276 => ?_)
                  refine JL_st (wants_none rfl) rfl (st_field_pt 0 (Grest.at_parent _) fi_53_3 rfl rfl rfl) (fun q277 => ?_)
                  refine JL_st (wants_none rfl) rfl (st_load_pt_o 0 (opens_int _) ti_3 rfl rfl) (fun _ => ?_)
                  refine JL_q (wants_none rfl) rfl (ex_assign rfl) ?_
                  refine JL_nil ?_
                  exact N_next' v273 ⟨rfl, rfl, rfl, trivial⟩ [7, 8, 9, 10, 11] rfl rfl
                · refine J_exit ?_
                  refine N_then_exit ?_
                  exact N_break' g258 ⟨rfl, rfl, rfl, trivial⟩ [2, 3, 4, 5, 6] rfl rfl
              · refine N_then ?_
                refine J_seq ?_
                refine J_seq ?_
                refine J_region ?_
                refine JL_q (wants_none rfl) rfl (ex_move rfl) ?_
                refine JL_q (wants_none rfl) rfl (ex_len_ow 4 Tryd.underlying24 rfl rfl) ?_
                refine JL_q (wants_none rfl) rfl (ex_gtr rfl rfl) ?_
                refine JL_nil ?_
                refine N_then ?_
                refine J_if rfl (fun h279 => ?_) (fun h279 => ?_)
                · refine J_seq ?_
                  refine J_region ?_
                  refine JL_q (wants_none rfl) rfl (ex_assign rfl) ?_
                  refine JL_q (wants_none rfl) rfl (ex_assign rfl) ?_
                  refine JL_nil ?_
                  refine N_then ?_
                  refine J_ret ?_
                  refine N_then_ret ?_
                  refine N_ctx (fun w hh => SH.ow_nil (α := Int) 2 hh) ?_
                  exact N_ret2 rfl (rv_tmp rfl) (rv_tmp rfl) (fun w hh => ⟨(.slice none 0 0 : Value), rfl, hh.sel [0] rfl⟩)
                · refine J_skip ?_
                  refine N_then ?_
                  refine J_seq ?_
                  refine J_region ?_
                  refine JL_q (wants_none rfl) rfl (ex_move rfl) ?_
                  refine JL_bnd fun r280 hr281 => ?_
                  refine JL_call (wants_none rfl) rfl Tryd.call25 rfl (Ca_self (fun _ => rfl) fun w hh => c_impl_reversed _ w (fun _ hk => hk.elim) _ _ (hh.ow0 4 rfl) _ hr281) (fun x282 => ?_)
                  refine JL_q (wants_none rfl) rfl (ex_assign rfl) ?_
                  refine JL_q (wants_none rfl) rfl (ex_assign rfl) ?_
                  refine JL_nil ?_
                  refine N_then ?_
                  refine J_ret ?_
                  exact N_ret2 rfl (rv_tmp rfl) (rv_tmp rfl) (fun w hh => ⟨x282, rfl, hh.sel [0] rfl⟩)

set_option maxHeartbeats 40000000 in
theorem c_laws_eqInt64S (A : Nat → Prop) (w : World) (hA : ∀ k, A k → k < w.heap.size) (v0_ : Value) (p0 : (List Int)) (hp0 : Rd A w v0_ p0) (v1_ : Value) (p1 : (List Int)) (hp1 : Rd A w v1_ p1) (r : Bool) (hr : F_laws_eqInt64S p0 p1 = some r) :
    Con Tryd.prog 8 [v0_, v1_] A w (fun x_ : Unit => .bool r) (fun x_ => []) := by
  refine Con_of (v := fun (r : Bool) (x_ : Unit) => .bool r) (fs := fun r x_ => []) Tryd.func8 rfl Tryd.ntmps8 rfl (((SH.start hA).start_rd rfl hp0).start_rd rfl hp1) rfl ?_ hr
  unfold F_laws_eqInt64S
  refine J_seq ?_
  refine J_region ?_
  refine JL_q (wants_none rfl) rfl (ex_assign rfl) ?_
  refine JL_nil ?_
  refine N_then ?_
  refine J_seq ?_
  refine J_seq ?_
  refine J_region ?_
  refine JL_q (wants_none rfl) rfl (ex_move rfl) ?_
  refine JL_q (wants_none rfl) rfl (ex_len_rd 1 Tryd.underlying24 rfl rfl) ?_
  refine JL_q (wants_none rfl) rfl (ex_move rfl) ?_
  refine JL_q (wants_none rfl) rfl (ex_len_rd 0 Tryd.underlying24 rfl rfl) ?_
  refine JL_q (wants_none rfl) rfl (ex_neq rfl rfl) ?_
  refine JL_nil ?_
  refine N_then ?_
  refine J_if rfl (fun h1 => ?_) (fun h1 => ?_)
  · refine J_seq ?_
    refine J_region ?_
    refine JL_q (wants_none rfl) rfl (ex_assign rfl) ?_
    refine JL_nil ?_
    refine N_then ?_
    refine J_ret ?_
    refine N_then_ret ?_
    exact N_ret1 rfl (rv_tmp rfl) (fun w hh => ⟨(), rfl, hh.sel [] rfl⟩)
  · refine J_skip ?_
    refine N_then ?_
    refine J_seq ?_
    refine J_seq ?_
    refine J_region ?_
    refine JL_q (wants_none rfl) rfl (ex_assign rfl) ?_
    refine JL_nil ?_
    refine N_then ?_
    refine J_loop' (S := Int) (G := Unit) (F_laws_eqInt64S_L1 p0 p1) (fun s2 _ => [(0, v0_), (1, v1_), (5, .int .i64 s2)]) (fun s2 _ => [.rd v0_ p0, .rd v1_ p1]) 0 () ⟨rfl, rfl, rfl, trivial⟩ [1, 0] rfl rfl (fun s2 g3 => ?_) (fun s2 g3 => ?_)
    · unfold F_laws_eqInt64S_L1
      refine J_seq ?_
      refine J_seq ?_
      refine J_region ?_
      refine JL_q (wants_none rfl) rfl (ex_move rfl) ?_
      refine JL_q (wants_none rfl) rfl (ex_move rfl) ?_
      refine JL_q (wants_none rfl) rfl (ex_len_rd 0 Tryd.underlying24 rfl rfl) ?_
      refine JL_q (wants_none rfl) rfl (ex_lss rfl rfl) ?_
      refine JL_nil ?_
      refine N_then ?_
      refine J_if rfl (fun h4 => ?_) (fun h4 => ?_)
      · refine J_skip ?_
        refine N_then ?_
        refine J_seq ?_
        refine J_block ?_
        refine J_seq ?_
        refine J_draw [] (by kernel_rfl) ?_
        refine JP_take (i := 0) [0, 1] [] rfl (by kernel_rfl) (by kernel_rfl) (by kernel_rfl) rfl rfl (wants_none rfl) rfl (ex_move rfl) ?_
        refine JP_take (i := 1) [0, 1] [] rfl (by kernel_rfl) (by kernel_rfl) (by kernel_rfl) rfl rfl (wants_none rfl) rfl (ex_move rfl) ?_
        refine JP_bnd fun y5 hy6 => ?_
        refine JP_sq (i := 2) [] rfl (by kernel_rfl) (by kernel_rfl) (by kernel_rfl) rfl (wants_none rfl) rfl (sq_index 0 Tryd.underlying24 ti_2 rfl rfl rfl hy6) (fun q7 => ?_)
        refine JP_sq (i := 3) [] rfl (by kernel_rfl) (by kernel_rfl) (by kernel_rfl) rfl (wants_none rfl) rfl (sq_load_pt_o 0 (opens_int _) ti_2 rfl rfl) (fun _ => ?_)
        refine JP_take (i := 4) [0, 1, 2] [] rfl (by kernel_rfl) (by kernel_rfl) (by kernel_rfl) rfl rfl (wants_none rfl) rfl (ex_move rfl) ?_
        refine JP_take (i := 5) [0, 1, 2] [] rfl (by kernel_rfl) (by kernel_rfl) (by kernel_rfl) rfl rfl (wants_none rfl) rfl (ex_move rfl) ?_
        refine JP_bnd fun y9 hy10 => ?_
        refine JP_sq (i := 6) [] rfl (by kernel_rfl) (by kernel_rfl) (by kernel_rfl) rfl (wants_none rfl) rfl (sq_index 2 Tryd.underlying24 ti_2 rfl rfl rfl hy10) (fun q11 => ?_)
        refine JP_sq (i := 7) [] rfl (by kernel_rfl) (by kernel_rfl) (by kernel_rfl) rfl (wants_none rfl) rfl (sq_load_pt_o 0 (opens_int _) ti_2 rfl rfl) (fun _ => ?_)
        refine JP_take (i := 8) [0, 1, 2, 3] [] rfl (by kernel_rfl) (by kernel_rfl) (by kernel_rfl) rfl rfl (wants_none rfl) rfl (ex_neq rfl rfl) ?_
        refine JP_go [] [] rfl rfl rfl (fun _ _ _ => ?_)
        refine JD_done (by kernel_rfl) ?_
        refine N_then ?_
        refine J_if rfl (fun h13 => ?_) (fun h13 => ?_)
        · refine J_seq ?_
          refine J_region ?_
          refine JL_q (wants_none rfl) rfl (ex_assign rfl) ?_
          refine JL_nil ?_
          refine N_then ?_
          refine J_ret ?_
          refine N_block_ret ?_
          refine N_then_ret ?_
          refine N_round_ret ?_
          refine N_then_ret ?_
          exact N_ret1 rfl (rv_tmp rfl) (fun w hh => ⟨(), rfl, hh.sel [] rfl⟩)
        · refine J_skip ?_
          refine N_block ?_
          refine N_then ?_
          refine J_region ?_
          refine JL_q (wants_none rfl) rfl (ex_move rfl) ?_
          refine JL_q (wants_none rfl) rfl (ex_add rfl rfl) ?_
          refine JL_q (wants_none rfl) rfl (ex_assign rfl) ?_
          refine JL_nil ?_
          exact N_next' () ⟨rfl, rfl, rfl, trivial⟩ [2, 3] rfl rfl
      · refine J_exit ?_
        refine N_then_exit ?_
        exact N_break' () ⟨rfl, rfl, rfl, trivial⟩ [0, 1] rfl rfl
    · refine N_then ?_
      refine J_seq ?_
      refine J_region ?_
      refine JL_q (wants_none rfl) rfl (ex_assign rfl) ?_
      refine JL_nil ?_
      refine N_then ?_
      refine J_ret ?_
      exact N_ret1 rfl (rv_tmp rfl) (fun w hh => ⟨(), rfl, hh.sel [] rfl⟩)

set_option maxHeartbeats 40000000 in
theorem c_laws_eqDomino (A : Nat → Prop) (w : World) (hA : ∀ k, A k → k < w.heap.size) (v0_ : Value) (p0 : GDomino) (hp0 : Rd A w v0_ p0) (v1_ : Value) (p1 : GDomino) (hp1 : Rd A w v1_ p1) (r : Bool) (hr : F_laws_eqDomino p0 p1 = some r) :
    Con Tryd.prog 26 [v0_, v1_] A w (fun x_ : Unit => .bool r) (fun x_ => []) := by
  obtain ⟨v0_0, v0_1, rfl, hp0_0, hp0_1⟩ := GDomino.open hp0
  obtain ⟨v1_0, v1_1, rfl, hp1_0, hp1_1⟩ := GDomino.open hp1
  refine Con_of (v := fun (r : Bool) (x_ : Unit) => .bool r) (fs := fun r x_ => []) Tryd.func26 rfl Tryd.ntmps26 rfl (((((SH.start hA).start_rd rfl hp0_0).start_rd rfl hp0_1).start_rd rfl hp1_0).start_rd rfl hp1_1) rfl ?_ hr
  unfold F_laws_eqDomino
  refine J_seq ?_
  refine J_region ?_
  refine JL_st (wants_none rfl) rfl (st_box' rfl (fun w hh => (cv_aggs ⟨(hh.cv 3 rfl), (hh.cv 2 rfl), trivial⟩))) (fun b1 => ?_)
  refine JL_st (wants_none rfl) rfl (st_box' rfl (fun w hh => (cv_aggs ⟨(hh.cv 2 rfl), (hh.cv 1 rfl), trivial⟩))) (fun b2 => ?_)
  refine JL_q (wants_none rfl) rfl (ex_assign rfl) ?_
  refine JL_nil ?_
  refine N_then ?_
  refine J_seq ?_
  refine J_seq ?_
  refine J_region ?_
  refine JL_q (wants_none rfl) rfl (ex_fieldAddr fi_40_0 rfl rfl) ?_
  refine JL_q (wants_none rfl) rfl (ex_load_bx 1 ti_24 rfl rfl rfl) ?_
  refine JL_q (wants_none rfl) rfl (ex_fieldAddr fi_40_0 rfl rfl) ?_
  refine JL_q (wants_none rfl) rfl (ex_load_bx 0 ti_24 rfl rfl rfl) ?_
  refine JL_bnd fun r3 hr4 => ?_
  refine JL_call (wants_none rfl) rfl Tryd.call8 rfl (Ca_of0 fun w hh => c_laws_eqInt64S _ w (fun _ hk => hk.elim) _ _ (hh.rd0 5 rfl) _ _ (hh.rd0 3 rfl) _ hr4) (fun _ => ?_)
  refine JL_q (wants_none rfl) rfl (ex_not rfl) ?_
  refine JL_nil ?_
  refine N_then ?_
  refine J_if rfl (fun h5 => ?_) (fun h5 => ?_)
  · refine J_seq ?_
    refine J_region ?_
    refine JL_q (wants_none rfl) rfl (ex_assign rfl) ?_
    refine JL_nil ?_
    refine N_then ?_
    refine J_ret ?_
    refine N_then_ret ?_
    exact N_ret1 rfl (rv_tmp rfl) (fun w hh => ⟨(), rfl, hh.sel [] rfl⟩)
  · refine J_skip ?_
    refine N_then ?_
    refine J_seq ?_
    refine J_seq ?_
    refine J_region ?_
    refine JL_q (wants_none rfl) rfl (ex_fieldAddr fi_40_1 rfl rfl) ?_
    refine JL_q (wants_none rfl) rfl (ex_load_bx 1 ti_24 rfl rfl rfl) ?_
    refine JL_q (wants_none rfl) rfl (ex_fieldAddr fi_40_1 rfl rfl) ?_
    refine JL_q (wants_none rfl) rfl (ex_load_bx 0 ti_24 rfl rfl rfl) ?_
    refine JL_bnd fun r6 hr7 => ?_
    refine JL_call (wants_none rfl) rfl Tryd.call8 rfl (Ca_of0 fun w hh => c_laws_eqInt64S _ w (fun _ hk => hk.elim) _ _ (hh.rd0 4 rfl) _ _ (hh.rd0 2 rfl) _ hr7) (fun _ => ?_)
    refine JL_q (wants_none rfl) rfl (ex_not rfl) ?_
    refine JL_nil ?_
    refine N_then ?_
    refine J_if rfl (fun h8 => ?_) (fun h8 => ?_)
    · refine J_seq ?_
      refine J_region ?_
      refine JL_q (wants_none rfl) rfl (ex_assign rfl) ?_
      refine JL_nil ?_
      refine N_then ?_
      refine J_ret ?_
      refine N_then_ret ?_
      exact N_ret1 rfl (rv_tmp rfl) (fun w hh => ⟨(), rfl, hh.sel [] rfl⟩)
    · refine J_skip ?_
      refine N_then ?_
      refine J_seq ?_
      refine J_region ?_
      refine JL_q (wants_none rfl) rfl (ex_assign rfl) ?_
      refine JL_nil ?_
      refine N_then ?_
      refine J_ret ?_
      exact N_ret1 rfl (rv_tmp rfl) (fun w hh => ⟨(), rfl, hh.sel [] rfl⟩)

set_option maxHeartbeats 40000000 in
theorem c_laws_eqDominoS (A : Nat → Prop) (w : World) (hA : ∀ k, A k → k < w.heap.size) (v0_ : Value) (p0 : (List GDomino)) (hp0 : Rd A w v0_ p0) (v1_ : Value) (p1 : (List GDomino)) (hp1 : Rd A w v1_ p1) (r : Bool) (hr : F_laws_eqDominoS p0 p1 = some r) :
    Con Tryd.prog 9 [v0_, v1_] A w (fun x_ : Unit => .bool r) (fun x_ => []) := by
  refine Con_of (v := fun (r : Bool) (x_ : Unit) => .bool r) (fs := fun r x_ => []) Tryd.func9 rfl Tryd.ntmps9 rfl (((SH.start hA).start_rd rfl hp0).start_rd rfl hp1) rfl ?_ hr
  unfold F_laws_eqDominoS
  refine J_seq ?_
  refine J_region ?_
  refine JL_q (wants_none rfl) rfl (ex_assign rfl) ?_
  refine JL_nil ?_
  refine N_then ?_
  refine J_seq ?_
  refine J_seq ?_
  refine J_region ?_
  refine JL_q (wants_none rfl) rfl (ex_move rfl) ?_
  refine JL_q (wants_none rfl) rfl (ex_len_rd 1 Tryd.underlying27 rfl rfl) ?_
  refine JL_q (wants_none rfl) rfl (ex_move rfl) ?_
  refine JL_q (wants_none rfl) rfl (ex_len_rd 0 Tryd.underlying27 rfl rfl) ?_
  refine JL_q (wants_none rfl) rfl (ex_neq rfl rfl) ?_
  refine JL_nil ?_
  refine N_then ?_
  refine J_if rfl (fun h1 => ?_) (fun h1 => ?_)
  · refine J_seq ?_
    refine J_region ?_
    refine JL_q (wants_none rfl) rfl (ex_assign rfl) ?_
    refine JL_nil ?_
    refine N_then ?_
    refine J_ret ?_
    refine N_then_ret ?_
    exact N_ret1 rfl (rv_tmp rfl) (fun w hh => ⟨(), rfl, hh.sel [] rfl⟩)
  · refine J_skip ?_
    refine N_then ?_
    refine J_seq ?_
    refine J_seq ?_
    refine J_region ?_
    refine JL_q (wants_none rfl) rfl (ex_assign rfl) ?_
    refine JL_nil ?_
    refine N_then ?_
    refine J_loop' (S := Int) (G := Unit) (F_laws_eqDominoS_L1 p0 p1) (fun s2 _ => [(0, v0_), (1, v1_), (5, .int .i64 s2)]) (fun s2 _ => [.rd v0_ p0, .rd v1_ p1]) 0 () ⟨rfl, rfl, rfl, trivial⟩ [1, 0] rfl rfl (fun s2 g3 => ?_) (fun s2 g3 => ?_)
    · unfold F_laws_eqDominoS_L1
      refine J_seq ?_
      refine J_seq ?_
      refine J_region ?_
      refine JL_q (wants_none rfl) rfl (ex_move rfl) ?_
      refine JL_q (wants_none rfl) rfl (ex_move rfl) ?_
      refine JL_q (wants_none rfl) rfl (ex_len_rd 0 Tryd.underlying27 rfl rfl) ?_
      refine JL_q (wants_none rfl) rfl (ex_lss rfl rfl) ?_
      refine JL_nil ?_
      refine N_then ?_
      refine J_if rfl (fun h4 => ?_) (fun h4 => ?_)
      · refine J_skip ?_
        refine N_then ?_
        refine J_seq ?_
        refine J_block ?_
        refine J_seq ?_
        refine J_draw [] (by kernel_rfl) ?_
        refine JP_take (i := 0) [0, 1] [] rfl (by kernel_rfl) (by kernel_rfl) (by kernel_rfl) rfl rfl (wants_none rfl) rfl (ex_move rfl) ?_
        refine JP_take (i := 1) [0, 1] [] rfl (by kernel_rfl) (by kernel_rfl) (by kernel_rfl) rfl rfl (wants_none rfl) rfl (ex_move rfl) ?_
        refine JP_bnd fun y5 hy6 => ?_
        refine JP_sq (i := 2) [] rfl (by kernel_rfl) (by kernel_rfl) (by kernel_rfl) rfl (wants_none rfl) rfl (sq_index 0 Tryd.underlying27 ti_40 rfl rfl rfl hy6) (fun q7 => ?_)
        refine JP_sq (i := 3) [] rfl (by kernel_rfl) (by kernel_rfl) (by kernel_rfl) rfl (wants_none rfl) rfl (sq_load_pt_o 0 (GDomino.opens _) ti_40 rfl rfl) (fun v8 => ?_)
        refine JP_take (i := 4) [0, 1, 2, 3, 4] [] rfl (by kernel_rfl) (by kernel_rfl) (by kernel_rfl) rfl rfl (wants_none rfl) rfl (ex_move rfl) ?_
        refine JP_take (i := 5) [0, 1, 2, 3, 4] [] rfl (by kernel_rfl) (by kernel_rfl) (by kernel_rfl) rfl rfl (wants_none rfl) rfl (ex_move rfl) ?_
        refine JP_bnd fun y9 hy10 => ?_
        refine JP_sq (i := 6) [] rfl (by kernel_rfl) (by kernel_rfl) (by kernel_rfl) rfl (wants_none rfl) rfl (sq_index 4 Tryd.underlying27 ti_40 rfl rfl rfl hy10) (fun q11 => ?_)
        refine JP_sq (i := 7) [] rfl (by kernel_rfl) (by kernel_rfl) (by kernel_rfl) rfl (wants_none rfl) rfl (sq_load_pt_o 0 (GDomino.opens _) ti_40 rfl rfl) (fun v12 => ?_)
        refine JP_go [0, 1, 2, 3, 4, 5, 6, 7] [] rfl rfl rfl (fun w14 h1_15 hp13 => ?_)
        refine JD_bnd fun r16 hr17 => ?_
        refine JD_one (i := 8) (by kernel_rfl) ?_
        refine JO_call rfl (wants_none rfl) rfl Tryd.call26 rfl (Ca_of0 fun w hh => c_laws_eqDomino _ w (fun _ hk => hk.elim) _ _ (GDomino.rdmk (hh.rd0 3 rfl) (hh.rd0 4 rfl)) _ _ (GDomino.rdmk (hh.rd0 0 rfl) (hh.rd0 1 rfl)) _ hr17) (fun _ => ?_)
        refine JD_take (i := 9) hp13 rfl (by kernel_rfl) (by kernel_rfl) (by kernel_rfl) (wants_none rfl) rfl (ex_not rfl) ?_
        refine JD_done (by kernel_rfl) ?_
        refine N_then ?_
        refine J_if rfl (fun h18 => ?_) (fun h18 => ?_)
        · refine J_seq ?_
          refine J_region ?_
          refine JL_q (wants_none rfl) rfl (ex_assign rfl) ?_
          refine JL_nil ?_
          refine N_then ?_
          refine J_ret ?_
          refine N_block_ret ?_
          refine N_then_ret ?_
          refine N_round_ret ?_
          refine N_then_ret ?_
          exact N_ret1 rfl (rv_tmp rfl) (fun w hh => ⟨(), rfl, hh.sel [] rfl⟩)
        · refine J_skip ?_
          refine N_block ?_
          refine N_then ?_
          refine J_region ?_
          refine JL_q (wants_none rfl) rfl (ex_move rfl) ?_
          refine JL_q (wants_none rfl) rfl (ex_add rfl rfl) ?_
          refine JL_q (wants_none rfl) rfl (ex_assign rfl) ?_
          refine JL_nil ?_
          exact N_next' () ⟨rfl, rfl, rfl, trivial⟩ [6, 7] rfl rfl
      · refine J_exit ?_
        refine N_then_exit ?_
        exact N_break' () ⟨rfl, rfl, rfl, trivial⟩ [0, 1] rfl rfl
    · refine N_then ?_
      refine J_seq ?_
      refine J_region ?_
      refine JL_q (wants_none rfl) rfl (ex_assign rfl) ?_
      refine JL_nil ?_
      refine N_then ?_
      refine J_ret ?_
      exact N_ret1 rfl (rv_tmp rfl) (fun w hh => ⟨(), rfl, hh.sel [] rfl⟩)

theorem mk_laws_markInt64S : MarkCon Tryd.prog 11 F_laws_markInt64S := by
  intro w v0_ p0 B_ p1 r hd_ hn_ hr
  refine (ConM_of (vs := [v0_, .int .i64 p1]) (v := fun (r : Int × (List Int)) (_ : Unit) => .int .i64 r.1) (fs := fun r _ => [mkr v0_ r.2 B_, rest w B_]) Tryd.func11 rfl Tryd.ntmps11 rfl (mark_start hd_ hn_) rfl ?_ hr).mono (fun e w2 h_ => by obtain ⟨_, he, hk⟩ := h_; exact ⟨he, mark_end hk⟩)
  unfold F_laws_markInt64S
  refine J_seq ?_
  refine J_region ?_
  refine JL_q (wants_none rfl) rfl (ex_assign rfl) ?_
  refine JL_nil ?_
  refine N_then ?_
  refine J_seq ?_
  refine J_seq ?_
  refine J_region ?_
  refine JL_q (wants_none rfl) rfl (ex_assign rfl) ?_
  refine JL_nil ?_
  refine N_then ?_
  refine J_loop' (S := (List Int) × Int × Int) (G := Unit) (F_laws_markInt64S_L1) (fun s1 _ => [(0, v0_), (1, .int .i64 s1.2.1), (5, .int .i64 s1.2.2)]) (fun s1 _ => [rest w B_, mkr v0_ s1.1 B_]) (p0, p1, 0) () ⟨rfl, rfl, rfl, trivial⟩ [1, 0] rfl rfl (fun s1 g2 => ?_) (fun s1 g2 => ?_)
  · unfold F_laws_markInt64S_L1
    refine J_seq ?_
    refine J_seq ?_
    refine J_region ?_
    refine JL_q (wants_none rfl) rfl (ex_move rfl) ?_
    refine JL_q (wants_none rfl) rfl (ex_move rfl) ?_
    refine JL_q (wants_none rfl) rfl (ex_len_mk 1 Tryd.underlying24 rfl rfl) ?_
    refine JL_q (wants_none rfl) rfl (ex_lss rfl rfl) ?_
    refine JL_nil ?_
    refine N_then ?_
    refine J_if rfl (fun h3 => ?_) (fun h3 => ?_)
    · refine J_skip ?_
      refine N_then ?_
      refine J_seq ?_
      refine J_block ?_
      refine J_seq ?_
      refine J_region ?_
      refine JL_q (wants_none rfl) rfl (ex_move rfl) ?_
      refine JL_q (wants_none rfl) rfl (ex_move rfl) ?_
      refine JL_q (wants_none rfl) rfl (ex_move rfl) ?_
      refine JL_bnd fun y4 hy5 => ?_
      refine JL_mk_open 1 rfl hy5 ?_; rintro b6 o8 cap7 rfl
      refine JL_q (wants_none rfl) rfl (ex_index_lit Tryd.underlying24 ti_2 rfl rfl hy5 (by first | rfl | simp)) ?_
      refine JL_sk (wants_none rfl) (sk_store_mk 1 (fs_self _) ti_2 rfl rfl rfl hy5) ?_
      refine JL_nil ?_
      refine N_then ?_
      refine J_region ?_
      refine JL_q (wants_none rfl) rfl (ex_move rfl) ?_
      refine JL_q (wants_none rfl) rfl (ex_add rfl rfl) ?_
      refine JL_q (wants_none rfl) rfl (ex_assign rfl) ?_
      refine JL_nil ?_
      refine N_block ?_
      refine N_then ?_
      refine J_region ?_
      refine JL_q (wants_none rfl) rfl (ex_move rfl) ?_
      refine JL_q (wants_none rfl) rfl (ex_add rfl rfl) ?_
      refine JL_q (wants_none rfl) rfl (ex_assign rfl) ?_
      refine JL_nil ?_
      exact N_next' () ⟨rfl, rfl, rfl, trivial⟩ [0, 1] rfl rfl
    · refine J_exit ?_
      refine N_then_exit ?_
      exact N_break' () ⟨rfl, rfl, rfl, trivial⟩ [0, 1] rfl rfl
  · refine N_then ?_
    refine J_seq ?_
    refine J_region ?_
    refine JL_q (wants_none rfl) rfl (ex_move rfl) ?_
    refine JL_q (wants_none rfl) rfl (ex_assign rfl) ?_
    refine JL_nil ?_
    refine N_then ?_
    refine J_ret ?_
    exact N_ret1 rfl (rv_tmp rfl) (fun w hh => ⟨(), rfl, hh.sel [1, 0] rfl⟩)

theorem mk_laws_markDominoS : MarkCon Tryd.prog 10 F_laws_markDominoS := by
  intro w v0_ p0 B_ p1 r hd_ hn_ hr
  refine (ConM_of (vs := [v0_, .int .i64 p1]) (v := fun (r : Int × (List GDomino)) (_ : Unit) => .int .i64 r.1) (fs := fun r _ => [mkr v0_ r.2 B_, rest w B_]) Tryd.func10 rfl Tryd.ntmps10 rfl (mark_start hd_ hn_) rfl ?_ hr).mono (fun e w2 h_ => by obtain ⟨_, he, hk⟩ := h_; exact ⟨he, mark_end hk⟩)
  unfold F_laws_markDominoS
  refine J_seq ?_
  refine J_region ?_
  refine JL_q (wants_none rfl) rfl (ex_assign rfl) ?_
  refine JL_nil ?_
  refine N_then ?_
  refine J_seq ?_
  refine J_seq ?_
  refine J_region ?_
  refine JL_q (wants_none rfl) rfl (ex_assign rfl) ?_
  refine JL_nil ?_
  refine N_then ?_
  refine J_loop' (S := (List GDomino) × Int × Int) (G := Unit) (F_laws_markDominoS_L1) (fun s1 _ => [(0, v0_), (1, .int .i64 s1.2.1), (5, .int .i64 s1.2.2)]) (fun s1 _ => [rest w B_, mkr v0_ s1.1 B_]) (p0, p1, 0) () ⟨rfl, rfl, rfl, trivial⟩ [1, 0] rfl rfl (fun s1 g2 => ?_) (fun s1 g2 => ?_)
  · unfold F_laws_markDominoS_L1
    refine J_seq ?_
    refine J_seq ?_
    refine J_region ?_
    refine JL_q (wants_none rfl) rfl (ex_move rfl) ?_
    refine JL_q (wants_none rfl) rfl (ex_move rfl) ?_
    refine JL_q (wants_none rfl) rfl (ex_len_mk 1 Tryd.underlying27 rfl rfl) ?_
    refine JL_q (wants_none rfl) rfl (ex_lss rfl rfl) ?_
    refine JL_nil ?_
    refine N_then ?_
    refine J_if rfl (fun h3 => ?_) (fun h3 => ?_)
    · refine J_skip ?_
      refine N_then ?_
      refine J_seq ?_
      refine J_block ?_
      refine J_seq ?_
      refine J_region ?_
      refine JL_q (wants_none rfl) rfl (ex_move rfl) ?_
      refine JL_q (wants_none rfl) rfl (ex_move rfl) ?_
      refine JL_bnd fun y4 hy5 => ?_
      refine JL_mk_open 1 rfl hy5 ?_; rintro b6 o8 cap7 rfl
      refine JL_q (wants_none rfl) rfl (ex_index_lit Tryd.underlying27 ti_40 rfl rfl hy5 (by first | rfl | simp)) ?_
      refine JL_q (wants_none rfl) rfl (ex_fieldAddr fi_40_0 rfl rfl) ?_
      refine JL_st (wants_none rfl) rfl (st_load_mk 1 (GDomino.fc_Top _) ti_24 rfl rfl hy5) (fun u9 => ?_)
      refine JL_q (wants_none rfl) rfl (ex_move rfl) ?_
      refine JL_bnd fun r10 hr11 => ?_
      refine JL_markc 1 mk_laws_markInt64S (GDomino.fc_Top _) (wants_none rfl) rfl Tryd.call11 rfl rfl hy5 hr11 ?_
      refine JL_q (wants_none rfl) rfl (ex_assign rfl) ?_
      refine JL_nil ?_
      refine N_then ?_
      refine J_region ?_
      refine JL_q (wants_none rfl) rfl (ex_move rfl) ?_
      refine JL_q (wants_none rfl) rfl (ex_move rfl) ?_
      refine JL_bnd fun y12 hy13 => ?_
      refine JL_q (wants_none rfl) rfl (ex_index_lit Tryd.underlying27 ti_40 rfl rfl hy13 (by first | rfl | simp)) ?_
      refine JL_q (wants_none rfl) rfl (ex_fieldAddr fi_40_1 rfl rfl) ?_
      refine JL_st (wants_none rfl) rfl (st_load_mk 1 (GDomino.fc_Bottom _) ti_24 rfl rfl hy13) (fun u14 => ?_)
      refine JL_q (wants_none rfl) rfl (ex_move rfl) ?_
      refine JL_bnd fun r15 hr16 => ?_
      refine JL_markc 1 mk_laws_markInt64S (GDomino.fc_Bottom _) (wants_none rfl) rfl Tryd.call11 rfl rfl hy13 hr16 ?_
      refine JL_q (wants_none rfl) rfl (ex_assign rfl) ?_
      refine JL_nil ?_
      refine N_block ?_
      refine N_then ?_
      refine J_region ?_
      refine JL_q (wants_none rfl) rfl (ex_move rfl) ?_
      refine JL_q (wants_none rfl) rfl (ex_add rfl rfl) ?_
      refine JL_q (wants_none rfl) rfl (ex_assign rfl) ?_
      refine JL_nil ?_
      exact N_next' () ⟨rfl, rfl, rfl, trivial⟩ [0, 1] rfl rfl
    · refine J_exit ?_
      refine N_then_exit ?_
      exact N_break' () ⟨rfl, rfl, rfl, trivial⟩ [0, 1] rfl rfl
  · refine N_then ?_
    refine J_seq ?_
    refine J_region ?_
    refine JL_q (wants_none rfl) rfl (ex_move rfl) ?_
    refine JL_q (wants_none rfl) rfl (ex_assign rfl) ?_
    refine JL_nil ?_
    refine N_then ?_
    refine J_ret ?_
    exact N_ret1 rfl (rv_tmp rfl) (fun w hh => ⟨(), rfl, hh.sel [1, 0] rfl⟩)

end Go.Proofs.YtabpcmbohmodnaaDoor
