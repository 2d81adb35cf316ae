/-
  Each function of the program computes what its plain function says: printed by program. No condition.
-/
import Derived.Test.YtceimgjcikkadaaFn
import Derived.Test.YtceimgjcikkadaaInf
import Derived.Test.YtceimgjcikkadaaCon1
import Derived.Test.YtceimgjcikkadaaCon4
namespace Go.Proofs.Ytceimgjcikkadaa
open Go Go.Tc Go.Fn
set_option linter.unusedVariables false

set_option maxHeartbeats 40000000 in
theorem c_spec_l13Cell (A : Nat → Prop) (w : World) (hA : ∀ k, A k → k < w.heap.size) (v0_ : Value) (p0 : (List Int)) (hp0 : Rd A w v0_ p0) (p1 : Int) (r : Int) (hr : F_spec_l13Cell p0 p1 = some r) :
    Con Try.prog 44 [v0_, .int .i64 p1] A w (fun x_ : Unit => .int .i64 r) (fun x_ => []) := by
  refine Con_of (v := fun (r : Int) (x_ : Unit) => .int .i64 r) (fs := fun r x_ => []) Try.func44 rfl Try.ntmps44 rfl ((SH.start hA).start_rd rfl hp0) rfl ?_ hr
  unfold F_spec_l13Cell
  refine J_seq ?_
  refine J_region ?_
  refine JL_q (wants_none rfl) rfl (ex_assign rfl) ?_
  refine JL_nil ?_
  refine N_then ?_
  refine J_seq ?_
  refine J_seq ?_
  refine J_region ?_
  refine JL_q (wants_none rfl) rfl (ex_move rfl) ?_
  refine JL_q (wants_none rfl) rfl (ex_move rfl) ?_
  refine JL_q (wants_none rfl) rfl (ex_len_rd 0 Try.underlying35 rfl rfl) ?_
  refine JL_q (wants_none rfl) rfl (ex_lss rfl rfl) ?_
  refine JL_nil ?_
  refine N_then ?_
  refine J_if rfl (fun h1 => ?_) (fun h1 => ?_)
  · refine J_seq ?_
    refine J_region ?_
    refine JL_q (wants_none rfl) rfl (ex_move rfl) ?_
    refine JL_q (wants_none rfl) rfl (ex_move rfl) ?_
    refine JL_bnd fun y2 hy3 => ?_
    refine JL_st (wants_none rfl) rfl (st_index 0 Try.underlying35 ti_2 rfl rfl rfl hy3) (fun q4 => ?_)
    refine JL_st (wants_none rfl) rfl (st_load_pt_o 0 (opens_int _) ti_2 rfl rfl) (fun _ => ?_)
    refine JL_q (wants_none rfl) rfl (ex_assign rfl) ?_
    refine JL_nil ?_
    refine N_then ?_
    refine J_ret ?_
    refine N_then_ret ?_
    exact N_ret1 rfl (rv_tmp rfl) (fun w hh => ⟨(), rfl, hh.sel [] rfl⟩)
  · refine J_skip ?_
    refine N_then ?_
    refine J_seq ?_
    refine J_region ?_
    refine JL_q (wants_none rfl) rfl (ex_assign rfl) ?_
    refine JL_nil ?_
    refine N_then ?_
    refine J_ret ?_
    exact N_ret1 rfl (rv_tmp rfl) (fun w hh => ⟨(), rfl, hh.sel [] rfl⟩)

set_option maxHeartbeats 40000000 in
theorem c_spec_FoldConfig (A : Nat → Prop) (w : World) (hA : ∀ k, A k → k < w.heap.size) (v0_ : Value) (p0 : GMachine) (hp0 : Rd A w v0_ p0) (v1_ : Value) (p1 : GConfig) (hp1 : Rd A w v1_ p1) (r : GConfig × Int) (hr : F_spec_FoldConfig p0 p1 = some r) :
    Con Try.prog 18 [v0_, v1_] A w (fun x_ : Value × Value => .tuple #[.agg #[.int .i64 r.1.State, x_.1, x_.2], .int .i64 r.2]) (fun x_ => [.ow 2 x_.1 r.1.Left, .ow 2 x_.2 r.1.Right]) := by
  obtain ⟨v0_0, rfl, hp0_0⟩ := GMachine.open hp0
  obtain ⟨v1_0, v1_1, rfl, hp1_0, hp1_1⟩ := GConfig.open hp1
  refine Con_of (v := fun (r : GConfig × Int) (x_ : Value × Value) => .tuple #[.agg #[.int .i64 r.1.State, x_.1, x_.2], .int .i64 r.2]) (fs := fun r x_ => [.ow 2 x_.1 r.1.Left, .ow 2 x_.2 r.1.Right]) Try.func18 rfl Try.ntmps18 rfl ((((SH.start hA).start_rd rfl hp0_0).start_rd rfl hp1_0).start_rd rfl hp1_1) rfl ?_ hr
  unfold F_spec_FoldConfig
  refine J_seq ?_
  refine J_region ?_
  refine JL_st (wants_none rfl) rfl (st_box' rfl (fun w hh => (cv_aggs ⟨cv_int, cv_int, (hh.cv 2 rfl), trivial⟩))) (fun b1 => ?_)
  refine JL_st (wants_none rfl) rfl (st_box' rfl (fun w hh => (cv_aggs ⟨cv_int, (hh.cv 2 rfl), (hh.cv 1 rfl), trivial⟩))) (fun b2 => ?_)
  refine JL_st (wants_none rfl) rfl (st_alloc zi_39 rfl) (fun b3 => ?_)
  refine JL_q (wants_none rfl) rfl (ex_assign rfl) ?_
  refine JL_nil ?_
  refine N_then ?_
  refine J_seq ?_
  refine J_cut' (S' := Unit) (G' := Unit) (fun _ _ => [(2, .pointer (some ⟨b1, 0, none⟩)), (3, .pointer (some ⟨b2, 0, none⟩)), (4, .pointer (some ⟨b3, 0, none⟩))]) (fun _ _ => [.rd v0_0 p0.Rules, .bx b1 28 [.int .i64 p0.Symbols, .int .i64 p0.States, v0_0], .rd v1_0 p1.Left, .rd v1_1 p1.Right, .bx b2 39 [.int .i64 p1.State, v1_0, v1_1], .bx b3 39 [.int .i64 0, .slice none 0 0, .slice none 0 0]]) ?_ (fun s4 g5 => ?_)
  · refine J_seq ?_
    refine J_region ?_
    refine JL_bnd fun r6 hr7 => ?_
    refine JL_call (wants_none rfl) rfl Try.call29 rfl (Ca_of0 fun w hh => c_spec_l05Is _ w (fun _ hk => hk.elim) _ _ (hh.bx_pa 2 rfl (GMachine.rdmk (Rd.mk_int _ _ _) (Rd.mk_int _ _ _) (hh.rd0 5 rfl)) rfl) _ hr7) (fun _ => ?_)
    refine JL_q (wants_none rfl) rfl (ex_not rfl) ?_
    refine JL_q (wants_none rfl) rfl (ex_move rfl) ?_
    refine JL_cond (fun h8 => ?_) (fun h8 => ?_)
    · refine JL_passed rfl rfl rfl h8 ?_
      refine JL_passed rfl rfl rfl h8 ?_
      refine JL_q (wants_none rfl) rfl (ex_pick_true rfl h8 rfl) ?_
      refine JL_nil ?_
      refine N_then ?_
      refine J_if_true rfl rfl ?_
      refine J_seq ?_
      refine J_region ?_
      refine JL_q (wants_none rfl) rfl (ex_build si_39 rfl .nil (fun w hh => trivial)) ?_
      refine JL_sk (wants_none rfl) (sk_store_bx' 0 ti_39 rfl rfl (fun w hh => (cv_aggs ⟨cv_int, cv_slice, cv_slice, trivial⟩)) rfl rfl rfl rfl) ?_
      refine JL_q (wants_none rfl) rfl (ex_assign rfl) ?_
      refine JL_nil ?_
      refine N_then ?_
      refine J_ret ?_
      refine N_mid_ret ?_
      refine N_then_ret ?_
      refine N_ctx (fun w hh => SH.ow_nil (α := Int) 2 hh) ?_
      refine N_ctx (fun w hh => SH.ow_nil (α := Int) 2 hh) ?_
      exact N_ret2 rfl (rv_cell 2 rfl rfl ti_39 rfl) (rv_tmp rfl) (fun w hh => ⟨((.slice none 0 0 : Value), (.slice none 0 0 : Value)), rfl, hh.sel [1, 0] rfl⟩)
    · refine JL_bnd fun r9 hr10 => ?_
      refine JL_call (wants_some rfl rfl rfl h8) rfl Try.call42 rfl (Ca_of0 fun w hh => c_spec_l05Good _ w (fun _ hk => hk.elim) _ _ (hh.bx_pa 2 rfl (GMachine.rdmk (Rd.mk_int _ _ _) (Rd.mk_int _ _ _) (hh.rd0 5 rfl)) rfl) _ _ (hh.bx_pa 1 rfl (GConfig.rdmk (Rd.mk_int _ _ _) (hh.rd0 4 rfl) (hh.rd0 3 rfl)) rfl) _ hr10) (fun _ => ?_)
      refine JL_q (wants_some rfl rfl rfl h8) rfl (ex_not rfl) ?_
      refine JL_q (wants_none rfl) rfl (ex_pick_false rfl h8 rfl) ?_
      refine JL_nil ?_
      refine N_then ?_
      refine J_if rfl (fun h11 => ?_) (fun h11 => ?_)
      · refine J_seq ?_
        refine J_region ?_
        refine JL_q (wants_none rfl) rfl (ex_build si_39 rfl .nil (fun w hh => trivial)) ?_
        refine JL_sk (wants_none rfl) (sk_store_bx' 0 ti_39 rfl rfl (fun w hh => (cv_aggs ⟨cv_int, cv_slice, cv_slice, trivial⟩)) rfl rfl rfl rfl) ?_
        refine JL_q (wants_none rfl) rfl (ex_assign rfl) ?_
        refine JL_nil ?_
        refine N_then ?_
        refine J_ret ?_
        refine N_mid_ret ?_
        refine N_then_ret ?_
        refine N_ctx (fun w hh => SH.ow_nil (α := Int) 2 hh) ?_
        refine N_ctx (fun w hh => SH.ow_nil (α := Int) 2 hh) ?_
        exact N_ret2 rfl (rv_cell 2 rfl rfl ti_39 rfl) (rv_tmp rfl) (fun w hh => ⟨((.slice none 0 0 : Value), (.slice none 0 0 : Value)), rfl, hh.sel [1, 0] rfl⟩)
      · refine J_skip ?_
        exact N_meet' () ⟨rfl, rfl, rfl, trivial⟩ [5, 2, 4, 3, 1, 0] rfl rfl
  · refine N_then ?_
    refine J_seq ?_
    refine J_region ?_
    refine JL_inline (wants_none rfl) rfl Try.call38 rfl Try.func38 rfl Try.ntmps38 rfl rfl (fun K_ hK12 => ?_)
    refine J_seq ?_
    refine J_region ?_
    refine JL_q (wants_none rfl) rfl (ex_assign rfl) ?_
    refine JL_q (wants_none rfl) rfl (ex_assign rfl) ?_
    refine JL_nil ?_
    refine N_then ?_
    refine J_seq ?_
    refine J_region ?_
    refine JL_q (wants_none rfl) rfl (ex_move rfl) ?_
    refine JL_q (wants_none rfl) rfl (ex_build si_55 rfl (.cons fi_55_0 rfl rfl (.cons fi_55_2 rfl rfl .nil)) (fun w hh => ⟨cv_ptr, cv_int, trivial⟩)) ?_
    refine JL_st (wants_none rfl) rfl (st_box' rfl (fun w hh => (cv_aggs ⟨cv_ptr, cv_ptr, cv_int, cv_slice, cv_int, cv_int, cv_slice, trivial⟩))) (fun b13 => ?_)
    refine JL_q (wants_none rfl) rfl (ex_assign rfl) ?_
    refine JL_nil ?_
    refine N_then ?_
    refine J_seq ?_
    refine J_seq ?_
    refine J_region ?_
    refine JL_q (wants_none rfl) rfl (ex_move rfl) ?_
    refine JL_q (wants_none rfl) rfl (ex_nilCheck rfl) ?_
    refine JL_q (wants_none rfl) rfl (ex_fieldAddr fi_28_0 rfl rfl) ?_
    refine JL_q (wants_none rfl) rfl (ex_load_bx 2 ti_2 rfl rfl rfl) ?_
    refine JL_q (wants_none rfl) rfl (ex_eql rfl rfl) ?_
    refine JL_nil ?_
    refine N_then ?_
    refine J_if rfl (fun h14 => ?_) (fun h14 => ?_)
    · refine J_seq ?_
      refine J_region ?_
      refine JL_q (wants_none rfl) rfl (ex_move rfl) ?_
      refine JL_q (wants_none rfl) rfl (ex_assign rfl) ?_
      refine JL_q (wants_none rfl) rfl (ex_assign rfl) ?_
      refine JL_nil ?_
      refine N_then ?_
      refine J_ret ?_
      refine N_then_ret ?_
      refine N_inl2 hK12 rfl (rv_tmp rfl) (rv_tmp rfl) ?_
      refine JL_q (wants_none rfl) rfl (ex_move rfl) ?_
      refine JL_q (wants_none rfl) rfl (ex_extract rfl rfl) ?_
      refine JL_q (wants_none rfl) rfl (ex_extract rfl rfl) ?_
      refine JL_q (wants_none rfl) rfl (ex_assign rfl) ?_
      refine JL_q (wants_none rfl) rfl (ex_assign rfl) ?_
      refine JL_nil ?_
      refine N_then ?_
      refine J_seq ?_
      refine J_seq ?_
      refine J_region ?_
      refine JL_q (wants_none rfl) rfl (ex_move rfl) ?_
      refine JL_q (wants_none rfl) rfl (ex_not rfl) ?_
      refine JL_nil ?_
      refine N_then ?_
      refine J_if_true rfl (by rw [show (false) = false from rfl]; rfl) ?_
      refine J_seq ?_
      refine J_region ?_
      refine JL_q (wants_none rfl) rfl (ex_build si_39 rfl .nil (fun w hh => trivial)) ?_
      refine JL_sk (wants_none rfl) (sk_store_bx' 6 ti_39 rfl rfl (fun w hh => (cv_aggs ⟨cv_int, cv_slice, cv_slice, trivial⟩)) rfl rfl rfl rfl) ?_
      refine JL_q (wants_none rfl) rfl (ex_assign rfl) ?_
      refine JL_nil ?_
      refine N_then ?_
      refine J_ret ?_
      refine N_then_ret ?_
      refine N_ctx (fun w hh => SH.ow_nil (α := Int) 2 hh) ?_
      refine N_ctx (fun w hh => SH.ow_nil (α := Int) 2 hh) ?_
      exact N_ret2 rfl (rv_cell 8 rfl rfl ti_39 rfl) (rv_tmp rfl) (fun w hh => ⟨((.slice none 0 0 : Value), (.slice none 0 0 : Value)), rfl, hh.sel [1, 0] rfl⟩)
    · refine J_skip ?_
      refine N_then ?_
      refine J_seq ?_
      refine J_region ?_
      refine JL_q (wants_none rfl) rfl (ex_move rfl) ?_
      refine JL_q (wants_none rfl) rfl (ex_move rfl) ?_
      refine JL_q (wants_none rfl) rfl (ex_nilCheck rfl) ?_
      refine JL_q (wants_none rfl) rfl (ex_fieldAddr fi_28_0 rfl rfl) ?_
      refine JL_q (wants_none rfl) rfl (ex_load_bx 2 ti_2 rfl rfl rfl) ?_
      refine JL_q (wants_none rfl) rfl (ex_add rfl rfl) ?_
      refine JL_st (wants_none rfl) rfl (st_buildSlice (vs := [.int .i64 0, .int .i64 0, .int .i64 0]) ([0, 0, 0] : List Int) Try.underlying35 ti_2 zi_2 rfl rfl rfl (fun w hh => ⟨(Rd.mk_int _ _ _), (Rd.mk_int _ _ _), (Rd.mk_int _ _ _), trivial⟩)) (fun b15 => ?_)
      refine JL_inline (wants_none rfl) rfl Try.call67 rfl Try.func67 rfl Try.ntmps67 rfl rfl (fun K_ hK16 => ?_)
      refine J_seq ?_
      refine J_region ?_
      refine JL_q (wants_none rfl) rfl (ex_assign rfl) ?_
      refine JL_nil ?_
      refine N_then ?_
      refine J_seq ?_
      refine J_region ?_
      refine JL_q (wants_none rfl) rfl (ex_move rfl) ?_
      refine JL_q (wants_none rfl) rfl (ex_move rfl) ?_
      refine JL_ctx (fun w hh => hh.tokf 0 rfl rfl) ?_
      refine JL_st (wants_none rfl) rfl (st_buildSlice_od (vs := [(.slice (some ⟨b15, 0, none⟩) 3 3)]) (B := ((((.slice (some ⟨b15, 0, none⟩) 3 3) : Value).ownBlock.toList ++ []) ++ [])) ([([0, 0, 0] : List Int)] : List (List Int)) [0] Try.underlying53 ti_35 zi_35 rfl rfl rfl rfl rfl (fun w hh => (dwv_cons (hh.dw 0 rfl) dwv_nil))) (fun b17 => ?_)
      refine JL_q (wants_none rfl) rfl (ex_nilCheck rfl) ?_
      refine JL_q (wants_none rfl) rfl (ex_fieldAddr fi_55_3 rfl rfl) ?_
      refine JL_sk (wants_none rfl) (sk_store_bx' 3 ti_53 rfl rfl (fun w hh => (hh.cv_od 0 rfl)) rfl rfl rfl rfl) ?_
      refine JL_nil ?_
      refine N_then ?_
      refine J_seq ?_
      refine J_region ?_
      refine JL_q (wants_none rfl) rfl (ex_move rfl) ?_
      refine JL_q (wants_none rfl) rfl (ex_move rfl) ?_
      refine JL_st (wants_none rfl) rfl (st_buildSlice (vs := []) ([] : List GRule) Try.underlying26 ti_97 zi_97 rfl rfl rfl (fun w hh => trivial)) (fun b18 => ?_)
      refine JL_q (wants_none rfl) rfl (ex_build si_28 rfl (.cons fi_28_0 rfl rfl (.cons fi_28_2 rfl rfl .nil)) (fun w hh => ⟨cv_int, (hh.cv_ow 0 rfl), trivial⟩)) ?_
      refine JL_q (wants_none rfl) rfl (ex_nilCheck rfl) ?_
      refine JL_q (wants_none rfl) rfl (ex_fieldAddr fi_55_4 rfl rfl) ?_
      refine JL_sk (wants_none rfl) (sk_store_bx' 4 ti_28 rfl rfl (fun w hh => (cv_aggs ⟨cv_int, cv_int, (hh.cv_ow 0 rfl), trivial⟩)) rfl rfl rfl rfl) ?_
      refine JL_nil ?_
      refine N_then ?_
      refine J_seq ?_
      refine J_seq ?_
      refine J_region ?_
      refine JL_q (wants_none rfl) rfl (ex_assign rfl) ?_
      refine JL_nil ?_
      refine N_then ?_
      refine J_loop' (S := (List (List Int)) × (List GRule) × Int) (G := Value × List Nat × Value) (F_spec_FoldConfig_L1 p0) (fun s19 g20 => [(0, .pointer (some ⟨b13, 0, none⟩)), (1, .int .i64 (w64 (p0.Symbols + 1))), (7, .int .i64 s19.2.2)]) (fun s19 g20 => [.rd v0_0 p0.Rules, .bx b1 28 [.int .i64 p0.Symbols, .int .i64 p0.States, v0_0], .od 35 g20.1 s19.1 g20.2.1, .ow 97 g20.2.2 s19.2.1, .bx b13 55 [.pointer (some ⟨b1, 0, none⟩), .pointer none, .int .i64 1, g20.1, .int .i64 (w64 (p0.Symbols + 1)), .int .i64 0, g20.2.2], .rd v1_0 p1.Left, .rd v1_1 p1.Right, .bx b2 39 [.int .i64 p1.State, v1_0, v1_1], .bx b3 39 [.int .i64 0, .slice none 0 0, .slice none 0 0]]) (([([0, 0, 0] : List Int)] : List (List Int)), ([] : List GRule), 0) ((.slice (some ⟨b17, 0, none⟩) 1 1), ((((.slice (some ⟨b15, 0, none⟩) 3 3) : Value).ownBlock.toList ++ []) ++ []), (.slice (some ⟨b18, 0, none⟩) 0 0)) ⟨rfl, rfl, rfl, trivial⟩ [5, 6, 1, 0, 4, 7, 8, 9, 10] rfl rfl (fun s19 g20 => ?_) (fun s19 g20 => ?_)
      · obtain ⟨g20_0, g20_1, g20_2⟩ := g20
        unfold F_spec_FoldConfig_L1
        refine J_seq ?_
        refine J_seq ?_
        refine J_region ?_
        refine JL_q (wants_none rfl) rfl (ex_move rfl) ?_
        refine JL_q (wants_none rfl) rfl (ex_move rfl) ?_
        refine JL_q (wants_none rfl) rfl (ex_nilCheck rfl) ?_
        refine JL_q (wants_none rfl) rfl (ex_fieldAddr fi_55_3 rfl rfl) ?_
        refine JL_q (wants_none rfl) rfl (ex_load_bx 4 ti_53 rfl rfl rfl) ?_
        refine JL_q (wants_none rfl) rfl (ex_od 2 rfl (ex_len_ow 2 Try.underlying53 rfl rfl)) ?_
        refine JL_q (wants_none rfl) rfl (ex_lss rfl rfl) ?_
        refine JL_nil ?_
        refine N_then ?_
        refine J_if rfl (fun h21 => ?_) (fun h21 => ?_)
        · refine J_skip ?_
          refine N_then ?_
          refine J_seq ?_
          refine J_block ?_
          refine J_seq ?_
          refine J_region ?_
          refine JL_q (wants_none rfl) rfl (ex_assign rfl) ?_
          refine JL_nil ?_
          refine N_then ?_
          refine J_loop' (S := (List (List Int)) × (List GRule) × Int) (G := Value × List Nat × Value) (F_spec_FoldConfig_L2 p0 s19) (fun s22 g23 => [(0, .pointer (some ⟨b13, 0, none⟩)), (1, .int .i64 (w64 (p0.Symbols + 1))), (7, .int .i64 s19.2.2), (8, .int .i64 s22.2.2)]) (fun s22 g23 => [.rd v0_0 p0.Rules, .bx b1 28 [.int .i64 p0.Symbols, .int .i64 p0.States, v0_0], .od 35 g23.1 s22.1 g23.2.1, .ow 97 g23.2.2 s22.2.1, .bx b13 55 [.pointer (some ⟨b1, 0, none⟩), .pointer none, .int .i64 1, g23.1, .int .i64 (w64 (p0.Symbols + 1)), .int .i64 0, g23.2.2], .rd v1_0 p1.Left, .rd v1_1 p1.Right, .bx b2 39 [.int .i64 p1.State, v1_0, v1_1], .bx b3 39 [.int .i64 0, .slice none 0 0, .slice none 0 0]]) (s19.1, s19.2.1, 0) (g20_0, g20_1, g20_2) ⟨rfl, rfl, rfl, rfl, trivial⟩ [0, 1, 2, 3, 4, 5, 6, 7, 8] rfl rfl (fun s22 g23 => ?_) (fun s22 g23 => ?_)
          · obtain ⟨g23_0, g23_1, g23_2⟩ := g23
            unfold F_spec_FoldConfig_L2
            refine J_seq ?_
            refine J_seq ?_
            refine J_region ?_
            refine JL_q (wants_none rfl) rfl (ex_move rfl) ?_
            refine JL_q (wants_none rfl) rfl (ex_move rfl) ?_
            refine JL_q (wants_none rfl) rfl (ex_lss rfl rfl) ?_
            refine JL_nil ?_
            refine N_then ?_
            refine J_if rfl (fun h24 => ?_) (fun h24 => ?_)
            · refine J_skip ?_
              refine N_then ?_
              refine J_seq ?_
              refine J_block ?_
              refine J_seq ?_
              refine J_region ?_
              refine JL_q (wants_none rfl) rfl (ex_move rfl) ?_
              refine JL_q (wants_none rfl) rfl (ex_move rfl) ?_
              refine JL_q (wants_none rfl) rfl (ex_nilCheck rfl) ?_
              refine JL_q (wants_none rfl) rfl (ex_fieldAddr fi_55_3 rfl rfl) ?_
              refine JL_q (wants_none rfl) rfl (ex_load_bx 4 ti_53 rfl rfl rfl) ?_
              refine JL_q (wants_none rfl) rfl (ex_move rfl) ?_
              refine JL_bnd fun y25 hy26 => ?_
              refine JL_od_open (v := g23_0) 2 rfl hy26 ?_; rintro b27 cap28 rfl
              refine JL_q (wants_none rfl) rfl (ex_od 2 rfl (ex_index_ow 2 Try.underlying53 ti_35 rfl rfl rfl hy26)) ?_
              refine JL_st (wants_none rfl) rfl (st_od 2 rfl (st_load_ow_o 2 (opens_sl _) ti_35 rfl rfl hy26) (fun _ => rfl)) (fun v29 => ?_)
              refine JL_q (wants_none rfl) rfl (ex_move rfl) ?_
              refine JL_inline (wants_none rfl) rfl Try.call93 rfl Try.func93 rfl Try.ntmps93 rfl rfl (fun K_ hK30 => ?_)
              refine J_seq ?_
              refine J_region ?_
              refine JL_st (wants_none rfl) rfl (st_alloc zi_129 rfl) (fun b31 => ?_)
              refine JL_nil ?_
              refine N_then ?_
              refine J_seq ?_
              refine J_seq ?_
              refine J_region ?_
              refine JL_q (wants_none rfl) rfl (ex_move rfl) ?_
              refine JL_q (wants_none rfl) rfl (ex_nilCheck rfl) ?_
              refine JL_q (wants_none rfl) rfl (ex_fieldAddr fi_55_2 rfl rfl) ?_
              refine JL_q (wants_none rfl) rfl (ex_load_bx 6 ti_2 rfl rfl rfl) ?_
              refine JL_nil ?_
              refine N_then ?_
              refine J_block ?_
              refine J_seq ?_
              refine J_region ?_
              refine JL_q (wants_none rfl) rfl (ex_eql rfl rfl) ?_
              refine JL_q (wants_none rfl) rfl (ex_assign rfl) ?_
              refine JL_nil ?_
              refine N_then ?_
              refine J_if_true rfl (by decide) ?_
              refine J_seq ?_
              refine J_region ?_
              refine JL_q (wants_none rfl) rfl (ex_move rfl) ?_
              refine JL_q (wants_none rfl) rfl (ex_nilCheck rfl) ?_
              refine JL_q (wants_none rfl) rfl (ex_fieldAddr fi_55_0 rfl rfl) ?_
              refine JL_q (wants_none rfl) rfl (ex_load_bx 6 ti_48 rfl rfl rfl) ?_
              refine JL_q (wants_none rfl) rfl (ex_move rfl) ?_
              refine JL_q (wants_none rfl) rfl (ex_move rfl) ?_
              refine JL_bnd fun r32 hr33 => ?_
              refine JL_call (wants_none rfl) rfl Try.call106 rfl (Ca_self (fun _ => rfl) fun w hh => c_spec_l13Fold _ w (fun _ hk => hk.elim) _ _ (hh.bx_pa 3 rfl (GMachine.rdmk (Rd.mk_int _ _ _) (Rd.mk_int _ _ _) (hh.rd0 2 rfl)) rfl) _ _ (hh.rd0 1 rfl) _ _ hr33) (fun x34 => ?_)
              obtain ⟨x34_0, x34_1⟩ := x34
              refine JL_ctx (fun w hh => hh.tkn_rd 0 rfl) ?_
              refine JL_sk (wants_none rfl) (sk_store_bx' 2 ti_129 rfl rfl (fun w hh => (cv_aggs ⟨cv_bool, cv_int, cv_int, (hh.cv 0 rfl), trivial⟩)) rfl rfl rfl rfl) ?_
              refine JL_nil ?_
              refine N_then ?_
              refine J_ret ?_
              refine N_block_ret ?_
              refine N_then_ret ?_
              refine N_inl1 hK30 rfl (rv_cell 2 rfl rfl ti_129 rfl) ?_
              refine JL_st (wants_none rfl) rfl (st_alloc zi_129 rfl) (fun b35 => ?_)
              refine JL_sk (wants_none rfl) (sk_store_bx' 0 ti_129 rfl rfl (fun w hh => (cv_aggs ⟨cv_bool, cv_int, cv_int, (hh.cv 1 rfl), trivial⟩)) rfl rfl rfl rfl) ?_
              refine JL_nil ?_
              refine N_then ?_
              refine J_seq ?_
              refine J_seq ?_
              refine J_region ?_
              refine JL_q (wants_none rfl) rfl (ex_fieldAddr fi_129_0 rfl rfl) ?_
              refine JL_q (wants_none rfl) rfl (ex_load_bx 0 ti_4 rfl rfl rfl) ?_
              refine JL_q (wants_none rfl) rfl (ex_not rfl) ?_
              refine JL_nil ?_
              refine N_then ?_
              refine J_if rfl (fun h36 => ?_) (fun h36 => ?_)
              · refine J_seq ?_
                refine J_cut' (S' := (List GRule)) (G' := Value) (fun s37 g38 => [(0, .pointer (some ⟨b13, 0, none⟩)), (1, .int .i64 (w64 (p0.Symbols + 1))), (7, .int .i64 s19.2.2), (8, .int .i64 s22.2.2)]) (fun s37 g38 => [.rd v0_0 p0.Rules, .bx b1 28 [.int .i64 p0.Symbols, .int .i64 p0.States, v0_0], .od 35 (.slice (some ⟨b27, 0, none⟩) s22.1.length cap28) s22.1 g23_1, .ow 97 g38 s37, .bx b13 55 [.pointer (some ⟨b1, 0, none⟩), .pointer none, .int .i64 1, (.slice (some ⟨b27, 0, none⟩) s22.1.length cap28), .int .i64 (w64 (p0.Symbols + 1)), .int .i64 0, g38], .rd v1_0 p1.Left, .rd v1_1 p1.Right, .bx b2 39 [.int .i64 p1.State, v1_0, v1_1], .bx b3 39 [.int .i64 0, .slice none 0 0, .slice none 0 0]]) ?_ (fun s37 g38 => ?_)
                · refine J_draw [8, 9] (by kernel_rfl) ?_
                  refine JP_take (i := 0) [0, 1, 2, 3, 4, 5, 6, 7, 10, 11, 12, 13] [8, 9] rfl (by kernel_rfl) (by kernel_rfl) (by kernel_rfl) rfl rfl (wants_none rfl) rfl (ex_move rfl) ?_
                  refine JP_take (i := 1) [0, 1, 2, 3, 4, 5, 6, 7, 10, 11, 12, 13] [8, 9] rfl (by kernel_rfl) (by kernel_rfl) (by kernel_rfl) rfl rfl (wants_none rfl) rfl (ex_move rfl) ?_
                  refine JP_take (i := 2) [0, 1, 2, 3, 4, 5, 6, 7, 10, 11, 12, 13] [8, 9] rfl (by kernel_rfl) (by kernel_rfl) (by kernel_rfl) rfl rfl (wants_none rfl) rfl (ex_nilCheck rfl) ?_
                  refine JP_take (i := 3) [0, 1, 2, 3, 4, 5, 6, 7, 10, 11, 12, 13] [8, 9] rfl (by kernel_rfl) (by kernel_rfl) (by kernel_rfl) rfl rfl (wants_none rfl) rfl (ex_fieldAddr fi_55_4 rfl rfl) ?_
                  refine JP_take (i := 4) [0, 1, 2, 3, 4, 5, 6, 7, 10, 11, 12, 13] [8, 9] rfl (by kernel_rfl) (by kernel_rfl) (by kernel_rfl) rfl rfl (wants_none rfl) rfl (ex_fieldAddr fi_28_2 rfl rfl) ?_
                  refine JP_go [0, 1, 2, 3, 4, 5, 6, 7, 10, 11, 12, 13] [8, 9] rfl rfl rfl (fun w40 h1_41 hp39 => ?_)
                  refine JD_bnd fun r42 hr43 => ?_
                  refine JD_two (i := 5) (j := 6) (by kernel_rfl) ?_ ?_
                  · refine JO_q rfl (wants_none rfl) rfl (ex_load_bx 9 ti_26 rfl rfl rfl) ?_
                    refine JD_one (i := 6) (by kernel_rfl) ?_
                    refine JO_call rfl (wants_none rfl) rfl Try.call92 rfl (Ca_of0 fun w hh => c_spec_l05None _ w (fun _ hk => hk.elim)  _ hr43) (fun _ => ?_)
                    refine JD_one (i := 7) (by kernel_rfl) ?_
                    refine JO_st rfl (wants_none rfl) rfl (st_buildSlice (vs := [.agg #[.int .i64 r42.Write, .int .i64 r42.Move, .int .i64 r42.Next]]) ([r42] : List GRule) Try.underlying26 ti_97 zi_97 rfl rfl rfl (fun w hh => ⟨(GRule.rdmk (Rd.mk_int _ _ _) (Rd.mk_int _ _ _) (Rd.mk_int _ _ _)), trivial⟩)) (fun _ hk => nomatch hk) (fun b44 => ?_)
                    refine JD_bnd fun z45 hz46 => ?_
                    refine JD_one (i := 8) (by kernel_rfl) ?_
                    refine JO_st rfl (wants_none rfl) rfl (st_append 9 Try.underlying26 ti_97 zi_97 rfl bi_97 rfl rfl rfl rfl (fun w hh => hh.src_ow 0 rfl) hz46) (sub_ow 0 rfl) (fun v47 => ?_)
                    refine JD_take (i := 9) hp39 rfl (by kernel_rfl) (by kernel_rfl) (by kernel_rfl) (wants_none rfl) rfl (ex_nilCheck rfl) ?_
                    refine JD_take (i := 10) hp39 rfl (by kernel_rfl) (by kernel_rfl) (by kernel_rfl) (wants_none rfl) rfl (ex_fieldAddr fi_55_4 rfl rfl) ?_
                    refine JD_take (i := 11) hp39 rfl (by kernel_rfl) (by kernel_rfl) (by kernel_rfl) (wants_none rfl) rfl (ex_fieldAddr fi_28_2 rfl rfl) ?_
                    refine JD_one (i := 12) (by kernel_rfl) ?_
                    refine JO_sk rfl (wants_none rfl) (sk_store_bx' 10 ti_26 rfl rfl (fun w hh => (hh.cv_ow 9 rfl)) rfl rfl rfl rfl) (sub_bx 1 rfl) ?_
                    refine JD_done (by kernel_rfl) ?_
                    exact N_meet' v47 ⟨rfl, rfl, rfl, rfl, trivial⟩ [6, 7, 8, 9, 10, 11, 12, 13, 14] rfl rfl
                  · refine JO_call rfl (wants_none rfl) rfl Try.call92 rfl (Ca_of0 fun w hh => c_spec_l05None _ w (fun _ hk => hk.elim)  _ hr43) (fun _ => ?_)
                    refine JD_two (i := 5) (j := 7) (by kernel_rfl) ?_ ?_
                    · refine JO_q rfl (wants_none rfl) rfl (ex_load_bx 9 ti_26 rfl rfl rfl) ?_
                      refine JD_one (i := 7) (by kernel_rfl) ?_
                      refine JO_st rfl (wants_none rfl) rfl (st_buildSlice (vs := [.agg #[.int .i64 r42.Write, .int .i64 r42.Move, .int .i64 r42.Next]]) ([r42] : List GRule) Try.underlying26 ti_97 zi_97 rfl rfl rfl (fun w hh => ⟨(GRule.rdmk (Rd.mk_int _ _ _) (Rd.mk_int _ _ _) (Rd.mk_int _ _ _)), trivial⟩)) (fun _ hk => nomatch hk) (fun b48 => ?_)
                      refine JD_bnd fun z49 hz50 => ?_
                      refine JD_one (i := 8) (by kernel_rfl) ?_
                      refine JO_st rfl (wants_none rfl) rfl (st_append 9 Try.underlying26 ti_97 zi_97 rfl bi_97 rfl rfl rfl rfl (fun w hh => hh.src_ow 0 rfl) hz50) (sub_ow 0 rfl) (fun v51 => ?_)
                      refine JD_take (i := 9) hp39 rfl (by kernel_rfl) (by kernel_rfl) (by kernel_rfl) (wants_none rfl) rfl (ex_nilCheck rfl) ?_
                      refine JD_take (i := 10) hp39 rfl (by kernel_rfl) (by kernel_rfl) (by kernel_rfl) (wants_none rfl) rfl (ex_fieldAddr fi_55_4 rfl rfl) ?_
                      refine JD_take (i := 11) hp39 rfl (by kernel_rfl) (by kernel_rfl) (by kernel_rfl) (wants_none rfl) rfl (ex_fieldAddr fi_28_2 rfl rfl) ?_
                      refine JD_one (i := 12) (by kernel_rfl) ?_
                      refine JO_sk rfl (wants_none rfl) (sk_store_bx' 10 ti_26 rfl rfl (fun w hh => (hh.cv_ow 9 rfl)) rfl rfl rfl rfl) (sub_bx 1 rfl) ?_
                      refine JD_done (by kernel_rfl) ?_
                      exact N_meet' v51 ⟨rfl, rfl, rfl, rfl, trivial⟩ [6, 7, 8, 9, 10, 11, 12, 13, 14] rfl rfl
                    · refine JO_st rfl (wants_none rfl) rfl (st_buildSlice (vs := [.agg #[.int .i64 r42.Write, .int .i64 r42.Move, .int .i64 r42.Next]]) ([r42] : List GRule) Try.underlying26 ti_97 zi_97 rfl rfl rfl (fun w hh => ⟨(GRule.rdmk (Rd.mk_int _ _ _) (Rd.mk_int _ _ _) (Rd.mk_int _ _ _)), trivial⟩)) (fun _ hk => nomatch hk) (fun b52 => ?_)
                      refine JD_one (i := 5) (by kernel_rfl) ?_
                      refine JO_q rfl (wants_none rfl) rfl (ex_load_bx 10 ti_26 rfl rfl rfl) ?_
                      refine JD_bnd fun z53 hz54 => ?_
                      refine JD_one (i := 8) (by kernel_rfl) ?_
                      refine JO_st rfl (wants_none rfl) rfl (st_append 9 Try.underlying26 ti_97 zi_97 rfl bi_97 rfl rfl rfl rfl (fun w hh => hh.src_ow 0 rfl) hz54) (sub_ow 0 rfl) (fun v55 => ?_)
                      refine JD_take (i := 9) hp39 rfl (by kernel_rfl) (by kernel_rfl) (by kernel_rfl) (wants_none rfl) rfl (ex_nilCheck rfl) ?_
                      refine JD_take (i := 10) hp39 rfl (by kernel_rfl) (by kernel_rfl) (by kernel_rfl) (wants_none rfl) rfl (ex_fieldAddr fi_55_4 rfl rfl) ?_
                      refine JD_take (i := 11) hp39 rfl (by kernel_rfl) (by kernel_rfl) (by kernel_rfl) (wants_none rfl) rfl (ex_fieldAddr fi_28_2 rfl rfl) ?_
                      refine JD_one (i := 12) (by kernel_rfl) ?_
                      refine JO_sk rfl (wants_none rfl) (sk_store_bx' 10 ti_26 rfl rfl (fun w hh => (hh.cv_ow 9 rfl)) rfl rfl rfl rfl) (sub_bx 1 rfl) ?_
                      refine JD_done (by kernel_rfl) ?_
                      exact N_meet' v55 ⟨rfl, rfl, rfl, rfl, trivial⟩ [6, 7, 8, 9, 10, 11, 12, 13, 14] rfl rfl
                · refine N_then ?_
                  refine J_exit ?_
                  refine N_then_exit ?_
                  refine N_block_exit ?_
                  refine N_then ?_
                  refine J_region ?_
                  refine JL_q (wants_none rfl) rfl (ex_move rfl) ?_
                  refine JL_q (wants_none rfl) rfl (ex_add rfl rfl) ?_
                  refine JL_q (wants_none rfl) rfl (ex_assign rfl) ?_
                  refine JL_nil ?_
                  exact N_next' ((.slice (some ⟨b27, 0, none⟩) s22.1.length cap28), g23_1, g38) ⟨rfl, rfl, rfl, rfl, trivial⟩ [0, 1, 2, 3, 4, 5, 6, 7, 8] rfl rfl
              · refine J_skip ?_
                refine N_then ?_
                refine J_seq ?_
                refine J_region ?_
                refine JL_q (wants_none rfl) rfl (ex_move rfl) ?_
                refine JL_q (wants_none rfl) rfl (ex_fieldAddr fi_129_3 rfl rfl) ?_
                refine JL_q (wants_none rfl) rfl (ex_load_bx 0 ti_35 rfl rfl rfl) ?_
                refine JL_inline (wants_none rfl) rfl Try.call43 rfl Try.func43 rfl Try.ntmps43 rfl rfl (fun K_ hK56 => ?_)
                refine J_seq ?_
                refine J_region ?_
                refine JL_q (wants_none rfl) rfl (ex_assign rfl) ?_
                refine JL_nil ?_
                refine N_then ?_
                refine J_seq ?_
                refine J_seq ?_
                refine J_region ?_
                refine JL_q (wants_none rfl) rfl (ex_assign rfl) ?_
                refine JL_nil ?_
                refine N_then ?_
                refine J_loop' (S := Int) (G := Unit) (F_spec_FoldConfig_L3 s22 r32) (fun s57 _ => [(0, .pointer (some ⟨b13, 0, none⟩)), (1, x34_0), (5, .int .i64 s57)]) (fun s57 _ => [.rd v0_0 p0.Rules, .bx b1 28 [.int .i64 p0.Symbols, .int .i64 p0.States, v0_0], .od 35 (.slice (some ⟨b27, 0, none⟩) s22.1.length cap28) s22.1 g23_1, .ow 97 g23_2 s22.2.1, .bx b13 55 [.pointer (some ⟨b1, 0, none⟩), .pointer none, .int .i64 1, (.slice (some ⟨b27, 0, none⟩) s22.1.length cap28), .int .i64 (w64 (p0.Symbols + 1)), .int .i64 0, g23_2], .rd x34_0 r32.next, .tkn x34_0 r32.next x34_1, .rd v1_0 p1.Left, .rd v1_1 p1.Right, .bx b2 39 [.int .i64 p1.State, v1_0, v1_1], .bx b3 39 [.int .i64 0, .slice none 0 0, .slice none 0 0], .bx b35 129 [.bool r32.ok, .int .i64 r32.write, .int .i64 r32.move, x34_0]]) 0 () ⟨rfl, rfl, rfl, trivial⟩ [5, 6, 7, 8, 9, 1, 2, 10, 11, 12, 13, 0] rfl rfl (fun s57 g58 => ?_) (fun s57 g58 => ?_)
                · unfold F_spec_FoldConfig_L3
                  refine J_seq ?_
                  refine J_seq ?_
                  refine J_region ?_
                  refine JL_q (wants_none rfl) rfl (ex_move rfl) ?_
                  refine JL_q (wants_none rfl) rfl (ex_move rfl) ?_
                  refine JL_q (wants_none rfl) rfl (ex_nilCheck rfl) ?_
                  refine JL_q (wants_none rfl) rfl (ex_fieldAddr fi_55_3 rfl rfl) ?_
                  refine JL_q (wants_none rfl) rfl (ex_load_bx 4 ti_53 rfl rfl rfl) ?_
                  refine JL_q (wants_none rfl) rfl (ex_od 2 rfl (ex_len_ow 2 Try.underlying53 rfl rfl)) ?_
                  refine JL_q (wants_none rfl) rfl (ex_lss rfl rfl) ?_
                  refine JL_nil ?_
                  refine N_then ?_
                  refine J_if rfl (fun h59 => ?_) (fun h59 => ?_)
                  · refine J_skip ?_
                    refine N_then ?_
                    refine J_seq ?_
                    refine J_block ?_
                    refine J_seq ?_
                    refine J_region ?_
                    refine JL_q (wants_none rfl) rfl (ex_move rfl) ?_
                    refine JL_q (wants_none rfl) rfl (ex_nilCheck rfl) ?_
                    refine JL_q (wants_none rfl) rfl (ex_fieldAddr fi_55_3 rfl rfl) ?_
                    refine JL_q (wants_none rfl) rfl (ex_load_bx 4 ti_53 rfl rfl rfl) ?_
                    refine JL_q (wants_none rfl) rfl (ex_move rfl) ?_
                    refine JL_bnd fun y60 hy61 => ?_
                    refine JL_q (wants_none rfl) rfl (ex_od 2 rfl (ex_index_ow 2 Try.underlying53 ti_35 rfl rfl rfl hy61)) ?_
                    refine JL_st (wants_none rfl) rfl (st_od 2 rfl (st_load_ow_o 2 (opens_sl _) ti_35 rfl rfl hy61) (fun _ => rfl)) (fun v62 => ?_)
                    refine JL_q (wants_none rfl) rfl (ex_move rfl) ?_
                    refine JL_bnd fun r63 hr64 => ?_
                    refine JL_call (wants_none rfl) rfl Try.call83 rfl (Ca_of0 fun w hh => c_spec_l00Same _ w (fun _ hk => hk.elim) _ _ (hh.rd0 0 rfl) _ _ (hh.rd0 6 rfl) _ hr64) (fun _ => ?_)
                    refine JL_nil ?_
                    refine N_then ?_
                    refine J_if rfl (fun h65 => ?_) (fun h65 => ?_)
                    · refine J_seq ?_
                      refine J_region ?_
                      refine JL_q (wants_none rfl) rfl (ex_move rfl) ?_
                      refine JL_q (wants_none rfl) rfl (ex_assign rfl) ?_
                      refine JL_nil ?_
                      refine N_then ?_
                      refine J_ret ?_
                      refine N_block_ret ?_
                      refine N_then_ret ?_
                      refine N_round_reti ?_
                      refine N_then_ret ?_
                      refine N_inl1 hK56 rfl (rv_tmp rfl) ?_
                      refine JL_q (wants_none rfl) rfl (ex_assign rfl) ?_
                      refine JL_nil ?_
                      refine N_then ?_
                      refine J_seq ?_
                      refine J_cut' (S' := (List (List Int)) × Int) (G' := Value × List Nat) (fun s66 g67 => [(0, .pointer (some ⟨b13, 0, none⟩)), (1, .int .i64 (w64 (p0.Symbols + 1))), (7, .int .i64 s19.2.2), (8, .int .i64 s22.2.2), (9, .pointer (some ⟨b35, 0, none⟩)), (10, .int .i64 s66.2)]) (fun s66 g67 => [.rd v0_0 p0.Rules, .bx b1 28 [.int .i64 p0.Symbols, .int .i64 p0.States, v0_0], .od 35 g67.1 s66.1 g67.2, .ow 97 g23_2 s22.2.1, .bx b13 55 [.pointer (some ⟨b1, 0, none⟩), .pointer none, .int .i64 1, g67.1, .int .i64 (w64 (p0.Symbols + 1)), .int .i64 0, g23_2], .rd x34_0 r32.next, .bx b35 129 [.bool r32.ok, .int .i64 r32.write, .int .i64 r32.move, x34_0], .rd v1_0 p1.Left, .rd v1_1 p1.Right, .bx b2 39 [.int .i64 p1.State, v1_0, v1_1], .bx b3 39 [.int .i64 0, .slice none 0 0, .slice none 0 0]]) ?_ (fun s66 g67 => ?_)
                      · refine J_seq ?_
                        refine J_region ?_
                        refine JL_q (wants_none rfl) rfl (ex_move rfl) ?_
                        refine JL_q (wants_none rfl) rfl (ex_lss rfl rfl) ?_
                        refine JL_nil ?_
                        refine N_then ?_
                        refine J_if rfl (fun h68 => ?_) (fun h68 => ?_)
                        · refine J_seq ?_
                          refine J_seq ?_
                          refine J_region ?_
                          refine JL_q (wants_none rfl) rfl (ex_move rfl) ?_
                          refine JL_q (wants_none rfl) rfl (ex_nilCheck rfl) ?_
                          refine JL_q (wants_none rfl) rfl (ex_fieldAddr fi_55_3 rfl rfl) ?_
                          refine JL_q (wants_none rfl) rfl (ex_load_bx 5 ti_53 rfl rfl rfl) ?_
                          refine JL_q (wants_none rfl) rfl (ex_od 3 rfl (ex_len_ow 3 Try.underlying53 rfl rfl)) ?_
                          refine JL_q (wants_none rfl) rfl (ex_eql rfl rfl) ?_
                          refine JL_nil ?_
                          refine N_then ?_
                          refine J_if rfl (fun h69 => ?_) (fun h69 => ?_)
                          · refine J_seq ?_
                            refine J_region ?_
                            refine JL_q (wants_none rfl) rfl (ex_assign rfl) ?_
                            refine JL_nil ?_
                            refine N_then ?_
                            refine J_ret ?_
                            refine N_then_ret ?_
                            refine N_mid_ret ?_
                            refine N_then_ret ?_
                            refine N_block_ret ?_
                            refine N_then_ret ?_
                            refine N_round_ret ?_
                            refine N_block_ret ?_
                            refine N_then_ret ?_
                            refine N_round_reti ?_
                            refine N_then_ret ?_
                            refine N_inl1 hK16 rfl (rv_tmp rfl) ?_
                            refine JL_q (wants_none rfl) rfl (ex_assign rfl) ?_
                            refine JL_nil ?_
                            refine N_then ?_
                            refine J_seq ?_
                            refine J_region ?_
                            refine JL_q (wants_none rfl) rfl (ex_move rfl) ?_
                            refine JL_q (wants_none rfl) rfl (ex_move rfl) ?_
                            refine JL_q (wants_none rfl) rfl (ex_assign rfl) ?_
                            refine JL_q (wants_none rfl) rfl (ex_assign rfl) ?_
                            refine JL_nil ?_
                            refine N_then ?_
                            refine J_ret ?_
                            refine N_inl2 hK12 rfl (rv_tmp rfl) (rv_tmp rfl) ?_
                            refine JL_q (wants_none rfl) rfl (ex_move rfl) ?_
                            refine JL_q (wants_none rfl) rfl (ex_extract rfl rfl) ?_
                            refine JL_q (wants_none rfl) rfl (ex_extract rfl rfl) ?_
                            refine JL_q (wants_none rfl) rfl (ex_assign rfl) ?_
                            refine JL_q (wants_none rfl) rfl (ex_assign rfl) ?_
                            refine JL_nil ?_
                            refine N_then ?_
                            refine J_seq ?_
                            refine J_seq ?_
                            refine J_region ?_
                            refine JL_q (wants_none rfl) rfl (ex_move rfl) ?_
                            refine JL_q (wants_none rfl) rfl (ex_not rfl) ?_
                            refine JL_nil ?_
                            refine N_then ?_
                            refine J_if_true rfl (by rw [show (false) = false from rfl]; rfl) ?_
                            refine J_seq ?_
                            refine J_region ?_
                            refine JL_q (wants_none rfl) rfl (ex_build si_39 rfl .nil (fun w hh => trivial)) ?_
                            refine JL_sk (wants_none rfl) (sk_store_bx' 11 ti_39 rfl rfl (fun w hh => (cv_aggs ⟨cv_int, cv_slice, cv_slice, trivial⟩)) rfl rfl rfl rfl) ?_
                            refine JL_q (wants_none rfl) rfl (ex_assign rfl) ?_
                            refine JL_nil ?_
                            refine N_then ?_
                            refine J_ret ?_
                            refine N_then_ret ?_
                            refine N_ctx (fun w hh => SH.ow_nil (α := Int) 2 hh) ?_
                            refine N_ctx (fun w hh => SH.ow_nil (α := Int) 2 hh) ?_
                            exact N_ret2 rfl (rv_cell 13 rfl rfl ti_39 rfl) (rv_tmp rfl) (fun w hh => ⟨((.slice none 0 0 : Value), (.slice none 0 0 : Value)), rfl, hh.sel [1, 0] rfl⟩)
                          · refine J_skip ?_
                            refine N_then ?_
                            refine J_seq ?_
                            refine J_region ?_
                            refine JL_q (wants_none rfl) rfl (ex_move rfl) ?_
                            refine JL_q (wants_none rfl) rfl (ex_nilCheck rfl) ?_
                            refine JL_q (wants_none rfl) rfl (ex_fieldAddr fi_55_3 rfl rfl) ?_
                            refine JL_q (wants_none rfl) rfl (ex_load_bx 5 ti_53 rfl rfl rfl) ?_
                            refine JL_q (wants_none rfl) rfl (ex_od 3 rfl (ex_len_ow 3 Try.underlying53 rfl rfl)) ?_
                            refine JL_q (wants_none rfl) rfl (ex_assign rfl) ?_
                            refine JL_nil ?_
                            refine N_then ?_
                            refine J_draw [3, 5] (by kernel_rfl) ?_
                            refine JP_take (i := 0) [0, 1, 2, 4, 6, 7, 8, 9, 10, 11, 12] [3, 5] rfl (by kernel_rfl) (by kernel_rfl) (by kernel_rfl) rfl rfl (wants_none rfl) rfl (ex_move rfl) ?_
                            refine JP_take (i := 1) [0, 1, 2, 4, 6, 7, 8, 9, 10, 11, 12] [3, 5] rfl (by kernel_rfl) (by kernel_rfl) (by kernel_rfl) rfl rfl (wants_none rfl) rfl (ex_move rfl) ?_
                            refine JP_take (i := 2) [0, 1, 2, 4, 6, 7, 8, 9, 10, 11, 12] [3, 5] rfl (by kernel_rfl) (by kernel_rfl) (by kernel_rfl) rfl rfl (wants_none rfl) rfl (ex_nilCheck rfl) ?_
                            refine JP_take (i := 3) [0, 1, 2, 4, 6, 7, 8, 9, 10, 11, 12] [3, 5] rfl (by kernel_rfl) (by kernel_rfl) (by kernel_rfl) rfl rfl (wants_none rfl) rfl (ex_fieldAddr fi_55_3 rfl rfl) ?_
                            refine JP_take (i := 5) [0, 1, 2, 4, 6, 7, 8, 9, 10, 11, 12] [3, 5] rfl (by kernel_rfl) (by kernel_rfl) (by kernel_rfl) rfl rfl (wants_none rfl) rfl (ex_fieldAddr fi_129_3 rfl rfl) ?_
                            refine JP_take (i := 6) [0, 1, 2, 4, 6, 7, 8, 9, 10, 11, 12] [3, 5] rfl (by kernel_rfl) (by kernel_rfl) (by kernel_rfl) rfl rfl (wants_none rfl) rfl (ex_load_bx 10 ti_35 rfl rfl rfl) ?_
                            refine JP_go [0, 1, 2, 4, 6, 7, 8, 9, 10, 11, 12] [3, 5] rfl rfl rfl (fun w71 h1_72 hp70 => ?_)
                            refine JD_two (i := 4) (j := 7) (by kernel_rfl) ?_ ?_
                            · refine JO_q rfl (wants_none rfl) rfl (ex_load_bx 5 ti_53 rfl rfl rfl) ?_
                              refine JD_one (i := 7) (by kernel_rfl) ?_
                              refine JO_st rfl (wants_none rfl) rfl (st_buildSlice_od (vs := [x34_0]) (B := (x34_1 ++ [])) ([r32.next] : List (List Int)) [7] Try.underlying53 ti_35 zi_35 rfl rfl rfl rfl rfl (fun w hh => (dwv_cons (hh.dw 7 rfl) dwv_nil))) (fun _ hk => nomatch hk) (fun b73 => ?_)
                              refine JD_bnd fun z74 hz75 => ?_
                              refine JD_one (i := 8) (by kernel_rfl) ?_
                              refine JO_st rfl (wants_none rfl) rfl (st_append_od 4 0 Try.underlying53 ti_35 zi_35 rfl bi_35 rfl rfl rfl rfl rfl rfl hz75) (sub_od 0 rfl) (fun v76 => ?_)
                              refine JD_take (i := 9) hp70 rfl (by kernel_rfl) (by kernel_rfl) (by kernel_rfl) (wants_none rfl) rfl (ex_nilCheck rfl) ?_
                              refine JD_take (i := 10) hp70 rfl (by kernel_rfl) (by kernel_rfl) (by kernel_rfl) (wants_none rfl) rfl (ex_fieldAddr fi_55_3 rfl rfl) ?_
                              refine JD_one (i := 11) (by kernel_rfl) ?_
                              refine JO_sk rfl (wants_none rfl) (sk_store_bx' 6 ti_53 rfl rfl (fun w hh => (hh.cv_od 4 rfl)) rfl rfl rfl rfl) (sub_bx 1 rfl) ?_
                              refine JD_done (by kernel_rfl) ?_
                              exact N_meet' (v76, (g23_1 ++ (x34_1 ++ []))) ⟨rfl, rfl, rfl, rfl, rfl, rfl, trivial⟩ [2, 3, 4, 5, 6, 7, 13, 9, 10, 11, 12] rfl rfl
                            · refine JO_st rfl (wants_none rfl) rfl (st_buildSlice_od (vs := [x34_0]) (B := (x34_1 ++ [])) ([r32.next] : List (List Int)) [7] Try.underlying53 ti_35 zi_35 rfl rfl rfl rfl rfl (fun w hh => (dwv_cons (hh.dw 7 rfl) dwv_nil))) (fun _ hk => nomatch hk) (fun b77 => ?_)
                              refine JD_one (i := 4) (by kernel_rfl) ?_
                              refine JO_q rfl (wants_none rfl) rfl (ex_load_bx 6 ti_53 rfl rfl rfl) ?_
                              refine JD_bnd fun z78 hz79 => ?_
                              refine JD_one (i := 8) (by kernel_rfl) ?_
                              refine JO_st rfl (wants_none rfl) rfl (st_append_od 4 0 Try.underlying53 ti_35 zi_35 rfl bi_35 rfl rfl rfl rfl rfl rfl hz79) (sub_od 0 rfl) (fun v80 => ?_)
                              refine JD_take (i := 9) hp70 rfl (by kernel_rfl) (by kernel_rfl) (by kernel_rfl) (wants_none rfl) rfl (ex_nilCheck rfl) ?_
                              refine JD_take (i := 10) hp70 rfl (by kernel_rfl) (by kernel_rfl) (by kernel_rfl) (wants_none rfl) rfl (ex_fieldAddr fi_55_3 rfl rfl) ?_
                              refine JD_one (i := 11) (by kernel_rfl) ?_
                              refine JO_sk rfl (wants_none rfl) (sk_store_bx' 6 ti_53 rfl rfl (fun w hh => (hh.cv_od 4 rfl)) rfl rfl rfl rfl) (sub_bx 1 rfl) ?_
                              refine JD_done (by kernel_rfl) ?_
                              exact N_meet' (v80, (g23_1 ++ (x34_1 ++ []))) ⟨rfl, rfl, rfl, rfl, rfl, rfl, trivial⟩ [2, 3, 4, 5, 6, 7, 13, 9, 10, 11, 12] rfl rfl
                        · refine J_skip ?_
                          exact N_meet' ((.slice (some ⟨b27, 0, none⟩) s22.1.length cap28), g23_1) ⟨rfl, rfl, rfl, rfl, rfl, rfl, trivial⟩ [1, 2, 3, 4, 5, 6, 12, 8, 9, 10, 11] rfl rfl
                      · obtain ⟨g67_0, g67_1⟩ := g67
                        refine N_then ?_
                        refine J_draw [3, 4] (by kernel_rfl) ?_
                        refine JP_take (i := 0) [0, 1, 2, 5, 6, 7, 8, 9, 10] [3, 4] rfl (by kernel_rfl) (by kernel_rfl) (by kernel_rfl) rfl rfl (wants_none rfl) rfl (ex_move rfl) ?_
                        refine JP_take (i := 1) [0, 1, 2, 5, 6, 7, 8, 9, 10] [3, 4] rfl (by kernel_rfl) (by kernel_rfl) (by kernel_rfl) rfl rfl (wants_none rfl) rfl (ex_move rfl) ?_
                        refine JP_take (i := 2) [0, 1, 2, 5, 6, 7, 8, 9, 10] [3, 4] rfl (by kernel_rfl) (by kernel_rfl) (by kernel_rfl) rfl rfl (wants_none rfl) rfl (ex_nilCheck rfl) ?_
                        refine JP_take (i := 3) [0, 1, 2, 5, 6, 7, 8, 9, 10] [3, 4] rfl (by kernel_rfl) (by kernel_rfl) (by kernel_rfl) rfl rfl (wants_none rfl) rfl (ex_fieldAddr fi_55_4 rfl rfl) ?_
                        refine JP_take (i := 4) [0, 1, 2, 5, 6, 7, 8, 9, 10] [3, 4] rfl (by kernel_rfl) (by kernel_rfl) (by kernel_rfl) rfl rfl (wants_none rfl) rfl (ex_fieldAddr fi_28_2 rfl rfl) ?_
                        refine JP_take (i := 6) [0, 1, 2, 5, 6, 7, 8, 9, 10] [3, 4] rfl (by kernel_rfl) (by kernel_rfl) (by kernel_rfl) rfl rfl (wants_none rfl) rfl (ex_fieldAddr fi_129_1 rfl rfl) ?_
                        refine JP_take (i := 7) [0, 1, 2, 5, 6, 7, 8, 9, 10] [3, 4] rfl (by kernel_rfl) (by kernel_rfl) (by kernel_rfl) rfl rfl (wants_none rfl) rfl (ex_load_bx 4 ti_2 rfl rfl rfl) ?_
                        refine JP_take (i := 8) [0, 1, 2, 5, 6, 7, 8, 9, 10] [3, 4] rfl (by kernel_rfl) (by kernel_rfl) (by kernel_rfl) rfl rfl (wants_none rfl) rfl (ex_fieldAddr fi_129_2 rfl rfl) ?_
                        refine JP_take (i := 9) [0, 1, 2, 5, 6, 7, 8, 9, 10] [3, 4] rfl (by kernel_rfl) (by kernel_rfl) (by kernel_rfl) rfl rfl (wants_none rfl) rfl (ex_load_bx 4 ti_2 rfl rfl rfl) ?_
                        refine JP_take (i := 10) [0, 1, 2, 5, 6, 7, 8, 9, 10] [3, 4] rfl (by kernel_rfl) (by kernel_rfl) (by kernel_rfl) rfl rfl (wants_none rfl) rfl (ex_move rfl) ?_
                        refine JP_take (i := 11) [0, 1, 2, 5, 6, 7, 8, 9, 10] [3, 4] rfl (by kernel_rfl) (by kernel_rfl) (by kernel_rfl) rfl rfl (wants_none rfl) rfl (ex_build si_97 rfl (.cons fi_97_0 rfl rfl (.cons fi_97_1 rfl rfl (.cons fi_97_2 rfl rfl .nil))) (fun w hh => ⟨cv_int, cv_int, cv_int, trivial⟩)) ?_
                        refine JP_go [0, 1, 2, 5, 6, 7, 8, 9, 10] [3, 4] rfl rfl rfl (fun w82 h1_83 hp81 => ?_)
                        refine JD_two (i := 5) (j := 12) (by kernel_rfl) ?_ ?_
                        · refine JO_q rfl (wants_none rfl) rfl (ex_load_bx 4 ti_26 rfl rfl rfl) ?_
                          refine JD_one (i := 12) (by kernel_rfl) ?_
                          refine JO_st rfl (wants_none rfl) rfl (st_buildSlice (vs := [.agg #[.int .i64 r32.write, .int .i64 r32.move, .int .i64 s66.2]]) ([(⟨r32.write, r32.move, s66.2⟩ : GRule)] : List GRule) Try.underlying26 ti_97 zi_97 rfl rfl rfl (fun w hh => ⟨(GRule.rdmk (Rd.mk_int _ _ _) (Rd.mk_int _ _ _) (Rd.mk_int _ _ _)), trivial⟩)) (fun _ hk => nomatch hk) (fun b84 => ?_)
                          refine JD_bnd fun z85 hz86 => ?_
                          refine JD_one (i := 13) (by kernel_rfl) ?_
                          refine JO_st rfl (wants_none rfl) rfl (st_append 4 Try.underlying26 ti_97 zi_97 rfl bi_97 rfl rfl rfl rfl (fun w hh => hh.src_ow 0 rfl) hz86) (sub_ow 0 rfl) (fun v87 => ?_)
                          refine JD_take (i := 14) hp81 rfl (by kernel_rfl) (by kernel_rfl) (by kernel_rfl) (wants_none rfl) rfl (ex_nilCheck rfl) ?_
                          refine JD_take (i := 15) hp81 rfl (by kernel_rfl) (by kernel_rfl) (by kernel_rfl) (wants_none rfl) rfl (ex_fieldAddr fi_55_4 rfl rfl) ?_
                          refine JD_take (i := 16) hp81 rfl (by kernel_rfl) (by kernel_rfl) (by kernel_rfl) (wants_none rfl) rfl (ex_fieldAddr fi_28_2 rfl rfl) ?_
                          refine JD_one (i := 17) (by kernel_rfl) ?_
                          refine JO_sk rfl (wants_none rfl) (sk_store_bx' 5 ti_26 rfl rfl (fun w hh => (hh.cv_ow 4 rfl)) rfl rfl rfl rfl) (sub_bx 1 rfl) ?_
                          refine JD_done (by kernel_rfl) ?_
                          refine N_block ?_
                          refine N_then ?_
                          refine J_region ?_
                          refine JL_q (wants_none rfl) rfl (ex_move rfl) ?_
                          refine JL_q (wants_none rfl) rfl (ex_add rfl rfl) ?_
                          refine JL_q (wants_none rfl) rfl (ex_assign rfl) ?_
                          refine JL_nil ?_
                          exact N_next' (g67_0, g67_1, v87) ⟨rfl, rfl, rfl, rfl, trivial⟩ [1, 2, 3, 4, 5, 8, 9, 10, 11] rfl rfl
                        · refine JO_st rfl (wants_none rfl) rfl (st_buildSlice (vs := [.agg #[.int .i64 r32.write, .int .i64 r32.move, .int .i64 s66.2]]) ([(⟨r32.write, r32.move, s66.2⟩ : GRule)] : List GRule) Try.underlying26 ti_97 zi_97 rfl rfl rfl (fun w hh => ⟨(GRule.rdmk (Rd.mk_int _ _ _) (Rd.mk_int _ _ _) (Rd.mk_int _ _ _)), trivial⟩)) (fun _ hk => nomatch hk) (fun b88 => ?_)
                          refine JD_one (i := 5) (by kernel_rfl) ?_
                          refine JO_q rfl (wants_none rfl) rfl (ex_load_bx 5 ti_26 rfl rfl rfl) ?_
                          refine JD_bnd fun z89 hz90 => ?_
                          refine JD_one (i := 13) (by kernel_rfl) ?_
                          refine JO_st rfl (wants_none rfl) rfl (st_append 4 Try.underlying26 ti_97 zi_97 rfl bi_97 rfl rfl rfl rfl (fun w hh => hh.src_ow 0 rfl) hz90) (sub_ow 0 rfl) (fun v91 => ?_)
                          refine JD_take (i := 14) hp81 rfl (by kernel_rfl) (by kernel_rfl) (by kernel_rfl) (wants_none rfl) rfl (ex_nilCheck rfl) ?_
                          refine JD_take (i := 15) hp81 rfl (by kernel_rfl) (by kernel_rfl) (by kernel_rfl) (wants_none rfl) rfl (ex_fieldAddr fi_55_4 rfl rfl) ?_
                          refine JD_take (i := 16) hp81 rfl (by kernel_rfl) (by kernel_rfl) (by kernel_rfl) (wants_none rfl) rfl (ex_fieldAddr fi_28_2 rfl rfl) ?_
                          refine JD_one (i := 17) (by kernel_rfl) ?_
                          refine JO_sk rfl (wants_none rfl) (sk_store_bx' 5 ti_26 rfl rfl (fun w hh => (hh.cv_ow 4 rfl)) rfl rfl rfl rfl) (sub_bx 1 rfl) ?_
                          refine JD_done (by kernel_rfl) ?_
                          refine N_block ?_
                          refine N_then ?_
                          refine J_region ?_
                          refine JL_q (wants_none rfl) rfl (ex_move rfl) ?_
                          refine JL_q (wants_none rfl) rfl (ex_add rfl rfl) ?_
                          refine JL_q (wants_none rfl) rfl (ex_assign rfl) ?_
                          refine JL_nil ?_
                          exact N_next' (g67_0, g67_1, v91) ⟨rfl, rfl, rfl, rfl, trivial⟩ [1, 2, 3, 4, 5, 8, 9, 10, 11] rfl rfl
                    · refine J_skip ?_
                      refine N_block ?_
                      refine N_then ?_
                      refine J_region ?_
                      refine JL_q (wants_none rfl) rfl (ex_move rfl) ?_
                      refine JL_q (wants_none rfl) rfl (ex_add rfl rfl) ?_
                      refine JL_q (wants_none rfl) rfl (ex_assign rfl) ?_
                      refine JL_nil ?_
                      exact N_next' () ⟨rfl, rfl, rfl, trivial⟩ [1, 2, 3, 4, 5, 6, 7, 8, 9, 10, 11, 12] rfl rfl
                  · refine J_exit ?_
                    refine N_then_exit ?_
                    exact N_break' () ⟨rfl, rfl, rfl, trivial⟩ [0, 1, 2, 3, 4, 5, 6, 7, 8, 9, 10, 11] rfl rfl
                · refine N_then ?_
                  refine J_seq ?_
                  refine J_region ?_
                  refine JL_q (wants_none rfl) rfl (ex_assign rfl) ?_
                  refine JL_nil ?_
                  refine N_then ?_
                  refine J_ret ?_
                  refine N_inl1 hK56 rfl (rv_tmp rfl) ?_
                  refine JL_q (wants_none rfl) rfl (ex_assign rfl) ?_
                  refine JL_nil ?_
                  refine N_then ?_
                  refine J_seq ?_
                  refine J_cut' (S' := (List (List Int)) × Int) (G' := Value × List Nat) (fun s92 g93 => [(0, .pointer (some ⟨b13, 0, none⟩)), (1, .int .i64 (w64 (p0.Symbols + 1))), (7, .int .i64 s19.2.2), (8, .int .i64 s22.2.2), (9, .pointer (some ⟨b35, 0, none⟩)), (10, .int .i64 s92.2)]) (fun s92 g93 => [.rd v0_0 p0.Rules, .bx b1 28 [.int .i64 p0.Symbols, .int .i64 p0.States, v0_0], .od 35 g93.1 s92.1 g93.2, .ow 97 g23_2 s22.2.1, .bx b13 55 [.pointer (some ⟨b1, 0, none⟩), .pointer none, .int .i64 1, g93.1, .int .i64 (w64 (p0.Symbols + 1)), .int .i64 0, g23_2], .rd x34_0 r32.next, .bx b35 129 [.bool r32.ok, .int .i64 r32.write, .int .i64 r32.move, x34_0], .rd v1_0 p1.Left, .rd v1_1 p1.Right, .bx b2 39 [.int .i64 p1.State, v1_0, v1_1], .bx b3 39 [.int .i64 0, .slice none 0 0, .slice none 0 0]]) ?_ (fun s92 g93 => ?_)
                  · refine J_seq ?_
                    refine J_region ?_
                    refine JL_q (wants_none rfl) rfl (ex_move rfl) ?_
                    refine JL_q (wants_none rfl) rfl (ex_lss rfl rfl) ?_
                    refine JL_nil ?_
                    refine N_then ?_
                    refine J_if_true rfl (by decide) ?_
                    refine J_seq ?_
                    refine J_seq ?_
                    refine J_region ?_
                    refine JL_q (wants_none rfl) rfl (ex_move rfl) ?_
                    refine JL_q (wants_none rfl) rfl (ex_nilCheck rfl) ?_
                    refine JL_q (wants_none rfl) rfl (ex_fieldAddr fi_55_3 rfl rfl) ?_
                    refine JL_q (wants_none rfl) rfl (ex_load_bx 4 ti_53 rfl rfl rfl) ?_
                    refine JL_q (wants_none rfl) rfl (ex_od 2 rfl (ex_len_ow 2 Try.underlying53 rfl rfl)) ?_
                    refine JL_q (wants_none rfl) rfl (ex_eql rfl rfl) ?_
                    refine JL_nil ?_
                    refine N_then ?_
                    refine J_if rfl (fun h94 => ?_) (fun h94 => ?_)
                    · refine J_seq ?_
                      refine J_region ?_
                      refine JL_q (wants_none rfl) rfl (ex_assign rfl) ?_
                      refine JL_nil ?_
                      refine N_then ?_
                      refine J_ret ?_
                      refine N_then_ret ?_
                      refine N_mid_ret ?_
                      refine N_then_ret ?_
                      refine N_block_ret ?_
                      refine N_then_ret ?_
                      refine N_round_ret ?_
                      refine N_block_ret ?_
                      refine N_then_ret ?_
                      refine N_round_reti ?_
                      refine N_then_ret ?_
                      refine N_inl1 hK16 rfl (rv_tmp rfl) ?_
                      refine JL_q (wants_none rfl) rfl (ex_assign rfl) ?_
                      refine JL_nil ?_
                      refine N_then ?_
                      refine J_seq ?_
                      refine J_region ?_
                      refine JL_q (wants_none rfl) rfl (ex_move rfl) ?_
                      refine JL_q (wants_none rfl) rfl (ex_move rfl) ?_
                      refine JL_q (wants_none rfl) rfl (ex_assign rfl) ?_
                      refine JL_q (wants_none rfl) rfl (ex_assign rfl) ?_
                      refine JL_nil ?_
                      refine N_then ?_
                      refine J_ret ?_
                      refine N_inl2 hK12 rfl (rv_tmp rfl) (rv_tmp rfl) ?_
                      refine JL_q (wants_none rfl) rfl (ex_move rfl) ?_
                      refine JL_q (wants_none rfl) rfl (ex_extract rfl rfl) ?_
                      refine JL_q (wants_none rfl) rfl (ex_extract rfl rfl) ?_
                      refine JL_q (wants_none rfl) rfl (ex_assign rfl) ?_
                      refine JL_q (wants_none rfl) rfl (ex_assign rfl) ?_
                      refine JL_nil ?_
                      refine N_then ?_
                      refine J_seq ?_
                      refine J_seq ?_
                      refine J_region ?_
                      refine JL_q (wants_none rfl) rfl (ex_move rfl) ?_
                      refine JL_q (wants_none rfl) rfl (ex_not rfl) ?_
                      refine JL_nil ?_
                      refine N_then ?_
                      refine J_if_true rfl (by rw [show (false) = false from rfl]; rfl) ?_
                      refine J_seq ?_
                      refine J_region ?_
                      refine JL_q (wants_none rfl) rfl (ex_build si_39 rfl .nil (fun w hh => trivial)) ?_
                      refine JL_sk (wants_none rfl) (sk_store_bx' 10 ti_39 rfl rfl (fun w hh => (cv_aggs ⟨cv_int, cv_slice, cv_slice, trivial⟩)) rfl rfl rfl rfl) ?_
                      refine JL_q (wants_none rfl) rfl (ex_assign rfl) ?_
                      refine JL_nil ?_
                      refine N_then ?_
                      refine J_ret ?_
                      refine N_then_ret ?_
                      refine N_ctx (fun w hh => SH.ow_nil (α := Int) 2 hh) ?_
                      refine N_ctx (fun w hh => SH.ow_nil (α := Int) 2 hh) ?_
                      exact N_ret2 rfl (rv_cell 12 rfl rfl ti_39 rfl) (rv_tmp rfl) (fun w hh => ⟨((.slice none 0 0 : Value), (.slice none 0 0 : Value)), rfl, hh.sel [1, 0] rfl⟩)
                    · refine J_skip ?_
                      refine N_then ?_
                      refine J_seq ?_
                      refine J_region ?_
                      refine JL_q (wants_none rfl) rfl (ex_move rfl) ?_
                      refine JL_q (wants_none rfl) rfl (ex_nilCheck rfl) ?_
                      refine JL_q (wants_none rfl) rfl (ex_fieldAddr fi_55_3 rfl rfl) ?_
                      refine JL_q (wants_none rfl) rfl (ex_load_bx 4 ti_53 rfl rfl rfl) ?_
                      refine JL_q (wants_none rfl) rfl (ex_od 2 rfl (ex_len_ow 2 Try.underlying53 rfl rfl)) ?_
                      refine JL_q (wants_none rfl) rfl (ex_assign rfl) ?_
                      refine JL_nil ?_
                      refine N_then ?_
                      refine J_draw [2, 4] (by kernel_rfl) ?_
                      refine JP_take (i := 0) [0, 1, 3, 5, 6, 7, 8, 9, 10, 11] [2, 4] rfl (by kernel_rfl) (by kernel_rfl) (by kernel_rfl) rfl rfl (wants_none rfl) rfl (ex_move rfl) ?_
                      refine JP_take (i := 1) [0, 1, 3, 5, 6, 7, 8, 9, 10, 11] [2, 4] rfl (by kernel_rfl) (by kernel_rfl) (by kernel_rfl) rfl rfl (wants_none rfl) rfl (ex_move rfl) ?_
                      refine JP_take (i := 2) [0, 1, 3, 5, 6, 7, 8, 9, 10, 11] [2, 4] rfl (by kernel_rfl) (by kernel_rfl) (by kernel_rfl) rfl rfl (wants_none rfl) rfl (ex_nilCheck rfl) ?_
                      refine JP_take (i := 3) [0, 1, 3, 5, 6, 7, 8, 9, 10, 11] [2, 4] rfl (by kernel_rfl) (by kernel_rfl) (by kernel_rfl) rfl rfl (wants_none rfl) rfl (ex_fieldAddr fi_55_3 rfl rfl) ?_
                      refine JP_take (i := 5) [0, 1, 3, 5, 6, 7, 8, 9, 10, 11] [2, 4] rfl (by kernel_rfl) (by kernel_rfl) (by kernel_rfl) rfl rfl (wants_none rfl) rfl (ex_fieldAddr fi_129_3 rfl rfl) ?_
                      refine JP_take (i := 6) [0, 1, 3, 5, 6, 7, 8, 9, 10, 11] [2, 4] rfl (by kernel_rfl) (by kernel_rfl) (by kernel_rfl) rfl rfl (wants_none rfl) rfl (ex_load_bx 9 ti_35 rfl rfl rfl) ?_
                      refine JP_go [0, 1, 3, 5, 6, 7, 8, 9, 10, 11] [2, 4] rfl rfl rfl (fun w96 h1_97 hp95 => ?_)
                      refine JD_two (i := 4) (j := 7) (by kernel_rfl) ?_ ?_
                      · refine JO_q rfl (wants_none rfl) rfl (ex_load_bx 4 ti_53 rfl rfl rfl) ?_
                        refine JD_one (i := 7) (by kernel_rfl) ?_
                        refine JO_st rfl (wants_none rfl) rfl (st_buildSlice_od (vs := [x34_0]) (B := (x34_1 ++ [])) ([r32.next] : List (List Int)) [6] Try.underlying53 ti_35 zi_35 rfl rfl rfl rfl rfl (fun w hh => (dwv_cons (hh.dw 6 rfl) dwv_nil))) (fun _ hk => nomatch hk) (fun b98 => ?_)
                        refine JD_bnd fun z99 hz100 => ?_
                        refine JD_one (i := 8) (by kernel_rfl) ?_
                        refine JO_st rfl (wants_none rfl) rfl (st_append_od 3 0 Try.underlying53 ti_35 zi_35 rfl bi_35 rfl rfl rfl rfl rfl rfl hz100) (sub_od 0 rfl) (fun v101 => ?_)
                        refine JD_take (i := 9) hp95 rfl (by kernel_rfl) (by kernel_rfl) (by kernel_rfl) (wants_none rfl) rfl (ex_nilCheck rfl) ?_
                        refine JD_take (i := 10) hp95 rfl (by kernel_rfl) (by kernel_rfl) (by kernel_rfl) (wants_none rfl) rfl (ex_fieldAddr fi_55_3 rfl rfl) ?_
                        refine JD_one (i := 11) (by kernel_rfl) ?_
                        refine JO_sk rfl (wants_none rfl) (sk_store_bx' 5 ti_53 rfl rfl (fun w hh => (hh.cv_od 3 rfl)) rfl rfl rfl rfl) (sub_bx 1 rfl) ?_
                        refine JD_done (by kernel_rfl) ?_
                        exact N_meet' (v101, (g23_1 ++ (x34_1 ++ []))) ⟨rfl, rfl, rfl, rfl, rfl, rfl, trivial⟩ [1, 2, 3, 4, 5, 6, 12, 8, 9, 10, 11] rfl rfl
                      · refine JO_st rfl (wants_none rfl) rfl (st_buildSlice_od (vs := [x34_0]) (B := (x34_1 ++ [])) ([r32.next] : List (List Int)) [6] Try.underlying53 ti_35 zi_35 rfl rfl rfl rfl rfl (fun w hh => (dwv_cons (hh.dw 6 rfl) dwv_nil))) (fun _ hk => nomatch hk) (fun b102 => ?_)
                        refine JD_one (i := 4) (by kernel_rfl) ?_
                        refine JO_q rfl (wants_none rfl) rfl (ex_load_bx 5 ti_53 rfl rfl rfl) ?_
                        refine JD_bnd fun z103 hz104 => ?_
                        refine JD_one (i := 8) (by kernel_rfl) ?_
                        refine JO_st rfl (wants_none rfl) rfl (st_append_od 3 0 Try.underlying53 ti_35 zi_35 rfl bi_35 rfl rfl rfl rfl rfl rfl hz104) (sub_od 0 rfl) (fun v105 => ?_)
                        refine JD_take (i := 9) hp95 rfl (by kernel_rfl) (by kernel_rfl) (by kernel_rfl) (wants_none rfl) rfl (ex_nilCheck rfl) ?_
                        refine JD_take (i := 10) hp95 rfl (by kernel_rfl) (by kernel_rfl) (by kernel_rfl) (wants_none rfl) rfl (ex_fieldAddr fi_55_3 rfl rfl) ?_
                        refine JD_one (i := 11) (by kernel_rfl) ?_
                        refine JO_sk rfl (wants_none rfl) (sk_store_bx' 5 ti_53 rfl rfl (fun w hh => (hh.cv_od 3 rfl)) rfl rfl rfl rfl) (sub_bx 1 rfl) ?_
                        refine JD_done (by kernel_rfl) ?_
                        exact N_meet' (v105, (g23_1 ++ (x34_1 ++ []))) ⟨rfl, rfl, rfl, rfl, rfl, rfl, trivial⟩ [1, 2, 3, 4, 5, 6, 12, 8, 9, 10, 11] rfl rfl
                  · obtain ⟨g93_0, g93_1⟩ := g93
                    refine N_then ?_
                    refine J_draw [3, 4] (by kernel_rfl) ?_
                    refine JP_take (i := 0) [0, 1, 2, 5, 6, 7, 8, 9, 10] [3, 4] rfl (by kernel_rfl) (by kernel_rfl) (by kernel_rfl) rfl rfl (wants_none rfl) rfl (ex_move rfl) ?_
                    refine JP_take (i := 1) [0, 1, 2, 5, 6, 7, 8, 9, 10] [3, 4] rfl (by kernel_rfl) (by kernel_rfl) (by kernel_rfl) rfl rfl (wants_none rfl) rfl (ex_move rfl) ?_
                    refine JP_take (i := 2) [0, 1, 2, 5, 6, 7, 8, 9, 10] [3, 4] rfl (by kernel_rfl) (by kernel_rfl) (by kernel_rfl) rfl rfl (wants_none rfl) rfl (ex_nilCheck rfl) ?_
                    refine JP_take (i := 3) [0, 1, 2, 5, 6, 7, 8, 9, 10] [3, 4] rfl (by kernel_rfl) (by kernel_rfl) (by kernel_rfl) rfl rfl (wants_none rfl) rfl (ex_fieldAddr fi_55_4 rfl rfl) ?_
                    refine JP_take (i := 4) [0, 1, 2, 5, 6, 7, 8, 9, 10] [3, 4] rfl (by kernel_rfl) (by kernel_rfl) (by kernel_rfl) rfl rfl (wants_none rfl) rfl (ex_fieldAddr fi_28_2 rfl rfl) ?_
                    refine JP_take (i := 6) [0, 1, 2, 5, 6, 7, 8, 9, 10] [3, 4] rfl (by kernel_rfl) (by kernel_rfl) (by kernel_rfl) rfl rfl (wants_none rfl) rfl (ex_fieldAddr fi_129_1 rfl rfl) ?_
                    refine JP_take (i := 7) [0, 1, 2, 5, 6, 7, 8, 9, 10] [3, 4] rfl (by kernel_rfl) (by kernel_rfl) (by kernel_rfl) rfl rfl (wants_none rfl) rfl (ex_load_bx 4 ti_2 rfl rfl rfl) ?_
                    refine JP_take (i := 8) [0, 1, 2, 5, 6, 7, 8, 9, 10] [3, 4] rfl (by kernel_rfl) (by kernel_rfl) (by kernel_rfl) rfl rfl (wants_none rfl) rfl (ex_fieldAddr fi_129_2 rfl rfl) ?_
                    refine JP_take (i := 9) [0, 1, 2, 5, 6, 7, 8, 9, 10] [3, 4] rfl (by kernel_rfl) (by kernel_rfl) (by kernel_rfl) rfl rfl (wants_none rfl) rfl (ex_load_bx 4 ti_2 rfl rfl rfl) ?_
                    refine JP_take (i := 10) [0, 1, 2, 5, 6, 7, 8, 9, 10] [3, 4] rfl (by kernel_rfl) (by kernel_rfl) (by kernel_rfl) rfl rfl (wants_none rfl) rfl (ex_move rfl) ?_
                    refine JP_take (i := 11) [0, 1, 2, 5, 6, 7, 8, 9, 10] [3, 4] rfl (by kernel_rfl) (by kernel_rfl) (by kernel_rfl) rfl rfl (wants_none rfl) rfl (ex_build si_97 rfl (.cons fi_97_0 rfl rfl (.cons fi_97_1 rfl rfl (.cons fi_97_2 rfl rfl .nil))) (fun w hh => ⟨cv_int, cv_int, cv_int, trivial⟩)) ?_
                    refine JP_go [0, 1, 2, 5, 6, 7, 8, 9, 10] [3, 4] rfl rfl rfl (fun w107 h1_108 hp106 => ?_)
                    refine JD_two (i := 5) (j := 12) (by kernel_rfl) ?_ ?_
                    · refine JO_q rfl (wants_none rfl) rfl (ex_load_bx 4 ti_26 rfl rfl rfl) ?_
                      refine JD_one (i := 12) (by kernel_rfl) ?_
                      refine JO_st rfl (wants_none rfl) rfl (st_buildSlice (vs := [.agg #[.int .i64 r32.write, .int .i64 r32.move, .int .i64 s92.2]]) ([(⟨r32.write, r32.move, s92.2⟩ : GRule)] : List GRule) Try.underlying26 ti_97 zi_97 rfl rfl rfl (fun w hh => ⟨(GRule.rdmk (Rd.mk_int _ _ _) (Rd.mk_int _ _ _) (Rd.mk_int _ _ _)), trivial⟩)) (fun _ hk => nomatch hk) (fun b109 => ?_)
                      refine JD_bnd fun z110 hz111 => ?_
                      refine JD_one (i := 13) (by kernel_rfl) ?_
                      refine JO_st rfl (wants_none rfl) rfl (st_append 4 Try.underlying26 ti_97 zi_97 rfl bi_97 rfl rfl rfl rfl (fun w hh => hh.src_ow 0 rfl) hz111) (sub_ow 0 rfl) (fun v112 => ?_)
                      refine JD_take (i := 14) hp106 rfl (by kernel_rfl) (by kernel_rfl) (by kernel_rfl) (wants_none rfl) rfl (ex_nilCheck rfl) ?_
                      refine JD_take (i := 15) hp106 rfl (by kernel_rfl) (by kernel_rfl) (by kernel_rfl) (wants_none rfl) rfl (ex_fieldAddr fi_55_4 rfl rfl) ?_
                      refine JD_take (i := 16) hp106 rfl (by kernel_rfl) (by kernel_rfl) (by kernel_rfl) (wants_none rfl) rfl (ex_fieldAddr fi_28_2 rfl rfl) ?_
                      refine JD_one (i := 17) (by kernel_rfl) ?_
                      refine JO_sk rfl (wants_none rfl) (sk_store_bx' 5 ti_26 rfl rfl (fun w hh => (hh.cv_ow 4 rfl)) rfl rfl rfl rfl) (sub_bx 1 rfl) ?_
                      refine JD_done (by kernel_rfl) ?_
                      refine N_block ?_
                      refine N_then ?_
                      refine J_region ?_
                      refine JL_q (wants_none rfl) rfl (ex_move rfl) ?_
                      refine JL_q (wants_none rfl) rfl (ex_add rfl rfl) ?_
                      refine JL_q (wants_none rfl) rfl (ex_assign rfl) ?_
                      refine JL_nil ?_
                      exact N_next' (g93_0, g93_1, v112) ⟨rfl, rfl, rfl, rfl, trivial⟩ [1, 2, 3, 4, 5, 8, 9, 10, 11] rfl rfl
                    · refine JO_st rfl (wants_none rfl) rfl (st_buildSlice (vs := [.agg #[.int .i64 r32.write, .int .i64 r32.move, .int .i64 s92.2]]) ([(⟨r32.write, r32.move, s92.2⟩ : GRule)] : List GRule) Try.underlying26 ti_97 zi_97 rfl rfl rfl (fun w hh => ⟨(GRule.rdmk (Rd.mk_int _ _ _) (Rd.mk_int _ _ _) (Rd.mk_int _ _ _)), trivial⟩)) (fun _ hk => nomatch hk) (fun b113 => ?_)
                      refine JD_one (i := 5) (by kernel_rfl) ?_
                      refine JO_q rfl (wants_none rfl) rfl (ex_load_bx 5 ti_26 rfl rfl rfl) ?_
                      refine JD_bnd fun z114 hz115 => ?_
                      refine JD_one (i := 13) (by kernel_rfl) ?_
                      refine JO_st rfl (wants_none rfl) rfl (st_append 4 Try.underlying26 ti_97 zi_97 rfl bi_97 rfl rfl rfl rfl (fun w hh => hh.src_ow 0 rfl) hz115) (sub_ow 0 rfl) (fun v116 => ?_)
                      refine JD_take (i := 14) hp106 rfl (by kernel_rfl) (by kernel_rfl) (by kernel_rfl) (wants_none rfl) rfl (ex_nilCheck rfl) ?_
                      refine JD_take (i := 15) hp106 rfl (by kernel_rfl) (by kernel_rfl) (by kernel_rfl) (wants_none rfl) rfl (ex_fieldAddr fi_55_4 rfl rfl) ?_
                      refine JD_take (i := 16) hp106 rfl (by kernel_rfl) (by kernel_rfl) (by kernel_rfl) (wants_none rfl) rfl (ex_fieldAddr fi_28_2 rfl rfl) ?_
                      refine JD_one (i := 17) (by kernel_rfl) ?_
                      refine JO_sk rfl (wants_none rfl) (sk_store_bx' 5 ti_26 rfl rfl (fun w hh => (hh.cv_ow 4 rfl)) rfl rfl rfl rfl) (sub_bx 1 rfl) ?_
                      refine JD_done (by kernel_rfl) ?_
                      refine N_block ?_
                      refine N_then ?_
                      refine J_region ?_
                      refine JL_q (wants_none rfl) rfl (ex_move rfl) ?_
                      refine JL_q (wants_none rfl) rfl (ex_add rfl rfl) ?_
                      refine JL_q (wants_none rfl) rfl (ex_assign rfl) ?_
                      refine JL_nil ?_
                      exact N_next' (g93_0, g93_1, v116) ⟨rfl, rfl, rfl, rfl, trivial⟩ [1, 2, 3, 4, 5, 8, 9, 10, 11] rfl rfl
            · refine J_exit ?_
              refine N_then_exit ?_
              exact N_break' (g23_0, g23_1, g23_2) ⟨rfl, rfl, rfl, rfl, trivial⟩ [0, 1, 2, 3, 4, 5, 6, 7, 8] rfl rfl
          · obtain ⟨g23_0, g23_1, g23_2⟩ := g23
            refine N_block ?_
            refine N_then ?_
            refine J_region ?_
            refine JL_q (wants_none rfl) rfl (ex_move rfl) ?_
            refine JL_q (wants_none rfl) rfl (ex_add rfl rfl) ?_
            refine JL_q (wants_none rfl) rfl (ex_assign rfl) ?_
            refine JL_nil ?_
            exact N_next' (g23_0, g23_1, g23_2) ⟨rfl, rfl, rfl, trivial⟩ [0, 1, 2, 3, 4, 5, 6, 7, 8] rfl rfl
        · refine J_exit ?_
          refine N_then_exit ?_
          exact N_break' (g20_0, g20_1, g20_2) ⟨rfl, rfl, rfl, trivial⟩ [0, 1, 2, 3, 4, 5, 6, 7, 8] rfl rfl
      · obtain ⟨g20_0, g20_1, g20_2⟩ := g20
        refine N_then ?_
        refine J_seq ?_
        refine J_region ?_
        refine JL_q (wants_none rfl) rfl (ex_move rfl) ?_
        refine JL_q (wants_none rfl) rfl (ex_move rfl) ?_
        refine JL_q (wants_none rfl) rfl (ex_nilCheck rfl) ?_
        refine JL_q (wants_none rfl) rfl (ex_fieldAddr fi_55_3 rfl rfl) ?_
        refine JL_q (wants_none rfl) rfl (ex_load_bx 4 ti_53 rfl rfl rfl) ?_
        refine JL_q (wants_none rfl) rfl (ex_od 2 rfl (ex_len_ow 2 Try.underlying53 rfl rfl)) ?_
        refine JL_q (wants_none rfl) rfl (ex_nilCheck rfl) ?_
        refine JL_q (wants_none rfl) rfl (ex_fieldAddr fi_55_4 rfl rfl) ?_
        refine JL_q (wants_none rfl) rfl (ex_fieldAddr fi_28_1 rfl rfl) ?_
        refine JL_sk (wants_none rfl) (sk_store_bx' 4 ti_2 rfl rfl (fun w hh => cv_int) rfl rfl rfl rfl) ?_
        refine JL_nil ?_
        refine N_then ?_
        refine J_seq ?_
        refine J_region ?_
        refine JL_q (wants_none rfl) rfl (ex_assign rfl) ?_
        refine JL_nil ?_
        refine N_then ?_
        refine J_ret ?_
        refine N_inl1 hK16 rfl (rv_tmp rfl) ?_
        refine JL_q (wants_none rfl) rfl (ex_assign rfl) ?_
        refine JL_nil ?_
        refine N_then ?_
        refine J_seq ?_
        refine J_region ?_
        refine JL_q (wants_none rfl) rfl (ex_move rfl) ?_
        refine JL_q (wants_none rfl) rfl (ex_move rfl) ?_
        refine JL_q (wants_none rfl) rfl (ex_assign rfl) ?_
        refine JL_q (wants_none rfl) rfl (ex_assign rfl) ?_
        refine JL_nil ?_
        refine N_then ?_
        refine J_ret ?_
        refine N_inl2 hK12 rfl (rv_tmp rfl) (rv_tmp rfl) ?_
        refine JL_q (wants_none rfl) rfl (ex_move rfl) ?_
        refine JL_q (wants_none rfl) rfl (ex_extract rfl rfl) ?_
        refine JL_q (wants_none rfl) rfl (ex_extract rfl rfl) ?_
        refine JL_q (wants_none rfl) rfl (ex_assign rfl) ?_
        refine JL_q (wants_none rfl) rfl (ex_assign rfl) ?_
        refine JL_nil ?_
        refine N_then ?_
        refine J_seq ?_
        refine J_seq ?_
        refine J_region ?_
        refine JL_q (wants_none rfl) rfl (ex_move rfl) ?_
        refine JL_q (wants_none rfl) rfl (ex_not rfl) ?_
        refine JL_nil ?_
        refine N_then ?_
        refine J_if_false rfl (by rw [show (true) = true from rfl]; rfl) ?_
        refine J_skip ?_
        refine N_then ?_
        refine J_seq ?_
        refine J_region ?_
        refine JL_q (wants_none rfl) rfl (ex_move rfl) ?_
        refine JL_q (wants_none rfl) rfl (ex_fieldAddr fi_39_0 rfl rfl) ?_
        refine JL_q (wants_none rfl) rfl (ex_load_bx 7 ti_2 rfl rfl rfl) ?_
        refine JL_st (wants_none rfl) rfl (st_buildSlice (vs := [.int .i64 0, .int .i64 p1.State, .int .i64 0]) ([0, p1.State, 0] : List Int) Try.underlying35 ti_2 zi_2 rfl rfl rfl (fun w hh => ⟨(Rd.mk_int _ _ _), (Rd.mk_int _ _ _), (Rd.mk_int _ _ _), trivial⟩)) (fun b117 => ?_)
        refine JL_inline (wants_none rfl) rfl Try.call43 rfl Try.func43 rfl Try.ntmps43 rfl rfl (fun K_ hK118 => ?_)
        refine J_seq ?_
        refine J_region ?_
        refine JL_q (wants_none rfl) rfl (ex_assign rfl) ?_
        refine JL_nil ?_
        refine N_then ?_
        refine J_seq ?_
        refine J_seq ?_
        refine J_region ?_
        refine JL_q (wants_none rfl) rfl (ex_assign rfl) ?_
        refine JL_nil ?_
        refine N_then ?_
        refine J_loop' (S := Int) (G := Unit) (F_spec_FoldConfig_L4 p0 p1 s19) (fun s119 _ => [(0, .pointer (some ⟨b13, 0, none⟩)), (1, (.slice (some ⟨b117, 0, none⟩) 3 3)), (5, .int .i64 s119)]) (fun s119 _ => [.rd v0_0 p0.Rules, .bx b1 28 [.int .i64 p0.Symbols, .int .i64 p0.States, v0_0], .od 35 g20_0 s19.1 g20_1, .ow 97 g20_2 s19.2.1, .bx b13 55 [.pointer (some ⟨b1, 0, none⟩), .pointer none, .int .i64 1, g20_0, .int .i64 (w64 (p0.Symbols + 1)), .int .i64 (s19.1.length : Int), g20_2], .ow 2 (.slice (some ⟨b117, 0, none⟩) 3 3) ([0, p1.State, 0] : List Int), .rd v1_0 p1.Left, .rd v1_1 p1.Right, .bx b2 39 [.int .i64 p1.State, v1_0, v1_1], .bx b3 39 [.int .i64 0, .slice none 0 0, .slice none 0 0]]) 0 () ⟨rfl, rfl, rfl, trivial⟩ [1, 2, 3, 4, 5, 0, 6, 7, 8, 9] rfl rfl (fun s119 g120 => ?_) (fun s119 g120 => ?_)
        · unfold F_spec_FoldConfig_L4
          refine J_seq ?_
          refine J_seq ?_
          refine J_region ?_
          refine JL_q (wants_none rfl) rfl (ex_move rfl) ?_
          refine JL_q (wants_none rfl) rfl (ex_move rfl) ?_
          refine JL_q (wants_none rfl) rfl (ex_nilCheck rfl) ?_
          refine JL_q (wants_none rfl) rfl (ex_fieldAddr fi_55_3 rfl rfl) ?_
          refine JL_q (wants_none rfl) rfl (ex_load_bx 4 ti_53 rfl rfl rfl) ?_
          refine JL_q (wants_none rfl) rfl (ex_od 2 rfl (ex_len_ow 2 Try.underlying53 rfl rfl)) ?_
          refine JL_q (wants_none rfl) rfl (ex_lss rfl rfl) ?_
          refine JL_nil ?_
          refine N_then ?_
          refine J_if rfl (fun h121 => ?_) (fun h121 => ?_)
          · refine J_skip ?_
            refine N_then ?_
            refine J_seq ?_
            refine J_block ?_
            refine J_seq ?_
            refine J_region ?_
            refine JL_q (wants_none rfl) rfl (ex_move rfl) ?_
            refine JL_q (wants_none rfl) rfl (ex_nilCheck rfl) ?_
            refine JL_q (wants_none rfl) rfl (ex_fieldAddr fi_55_3 rfl rfl) ?_
            refine JL_q (wants_none rfl) rfl (ex_load_bx 4 ti_53 rfl rfl rfl) ?_
            refine JL_q (wants_none rfl) rfl (ex_move rfl) ?_
            refine JL_bnd fun y122 hy123 => ?_
            refine JL_od_open (v := g20_0) 2 rfl hy123 ?_; rintro b124 cap125 rfl
            refine JL_q (wants_none rfl) rfl (ex_od 2 rfl (ex_index_ow 2 Try.underlying53 ti_35 rfl rfl rfl hy123)) ?_
            refine JL_st (wants_none rfl) rfl (st_od 2 rfl (st_load_ow_o 2 (opens_sl _) ti_35 rfl rfl hy123) (fun _ => rfl)) (fun v126 => ?_)
            refine JL_q (wants_none rfl) rfl (ex_move rfl) ?_
            refine JL_bnd fun r127 hr128 => ?_
            refine JL_call (wants_none rfl) rfl Try.call83 rfl (Ca_of0 fun w hh => c_spec_l00Same _ w (fun _ hk => hk.elim) _ _ (hh.rd0 0 rfl) _ _ (hh.ow0 6 rfl) _ hr128) (fun _ => ?_)
            refine JL_nil ?_
            refine N_then ?_
            refine J_if rfl (fun h129 => ?_) (fun h129 => ?_)
            · refine J_seq ?_
              refine J_region ?_
              refine JL_q (wants_none rfl) rfl (ex_move rfl) ?_
              refine JL_q (wants_none rfl) rfl (ex_assign rfl) ?_
              refine JL_nil ?_
              refine N_then ?_
              refine J_ret ?_
              refine N_block_ret ?_
              refine N_then_ret ?_
              refine N_round_reti ?_
              refine N_then_ret ?_
              refine N_inl1 hK118 rfl (rv_tmp rfl) ?_
              refine JL_q (wants_none rfl) rfl (ex_assign rfl) ?_
              refine JL_nil ?_
              refine N_then ?_
              refine J_seq ?_
              refine J_seq ?_
              refine J_region ?_
              refine JL_q (wants_none rfl) rfl (ex_move rfl) ?_
              refine JL_q (wants_none rfl) rfl (ex_lss rfl rfl) ?_
              refine JL_nil ?_
              refine N_then ?_
              refine J_if rfl (fun h130 => ?_) (fun h130 => ?_)
              · refine J_seq ?_
                refine J_region ?_
                refine JL_q (wants_none rfl) rfl (ex_build si_39 rfl .nil (fun w hh => trivial)) ?_
                refine JL_sk (wants_none rfl) (sk_store_bx' 10 ti_39 rfl rfl (fun w hh => (cv_aggs ⟨cv_int, cv_slice, cv_slice, trivial⟩)) rfl rfl rfl rfl) ?_
                refine JL_q (wants_none rfl) rfl (ex_assign rfl) ?_
                refine JL_nil ?_
                refine N_then ?_
                refine J_ret ?_
                refine N_then_ret ?_
                refine N_ctx (fun w hh => SH.ow_nil (α := Int) 2 hh) ?_
                refine N_ctx (fun w hh => SH.ow_nil (α := Int) 2 hh) ?_
                exact N_ret2 rfl (rv_cell 12 rfl rfl ti_39 rfl) (rv_tmp rfl) (fun w hh => ⟨((.slice none 0 0 : Value), (.slice none 0 0 : Value)), rfl, hh.sel [1, 0] rfl⟩)
              · refine J_skip ?_
                refine N_then ?_
                refine J_seq ?_
                refine J_region ?_
                refine JL_st (wants_none rfl) rfl (st_buildSlice (vs := []) ([] : List Int) Try.underlying35 ti_2 zi_2 rfl rfl rfl (fun w hh => trivial)) (fun b131 => ?_)
                refine JL_q (wants_none rfl) rfl (ex_assign rfl) ?_
                refine JL_nil ?_
                refine N_then ?_
                refine J_seq ?_
                refine J_seq ?_
                refine J_region ?_
                refine JL_q (wants_none rfl) rfl (ex_assign rfl) ?_
                refine JL_nil ?_
                refine N_then ?_
                refine J_loop' (S := (List Int) × Int) (G := Value) (F_spec_FoldConfig_L5 p1) (fun s132 g133 => [(2, .pointer (some ⟨b1, 0, none⟩)), (3, .pointer (some ⟨b2, 0, none⟩)), (4, .pointer (some ⟨b3, 0, none⟩)), (6, .pointer (some ⟨b13, 0, none⟩)), (8, .int .i64 s119), (9, g133), (10, .int .i64 s132.2)]) (fun s132 g133 => [.rd v0_0 p0.Rules, .bx b1 28 [.int .i64 p0.Symbols, .int .i64 p0.States, v0_0], .rd v1_0 p1.Left, .rd v1_1 p1.Right, .bx b2 39 [.int .i64 p1.State, v1_0, v1_1], .bx b3 39 [.int .i64 0, .slice none 0 0, .slice none 0 0], .od 35 (.slice (some ⟨b124, 0, none⟩) s19.1.length cap125) s19.1 g20_1, .ow 97 g20_2 s19.2.1, .bx b13 55 [.pointer (some ⟨b1, 0, none⟩), .pointer none, .int .i64 1, (.slice (some ⟨b124, 0, none⟩) s19.1.length cap125), .int .i64 (w64 (p0.Symbols + 1)), .int .i64 (s19.1.length : Int), g20_2], .ow 2 g133 s132.1]) (([] : List Int), 0) (.slice (some ⟨b131, 0, none⟩) 0 0) ⟨rfl, rfl, rfl, rfl, rfl, rfl, rfl, trivial⟩ [2, 3, 8, 9, 10, 11, 4, 5, 6, 0] rfl rfl (fun s132 g133 => ?_) (fun s132 g133 => ?_)
                · unfold F_spec_FoldConfig_L5
                  refine J_seq ?_
                  refine J_seq ?_
                  refine J_cut' (S' := Bool) (G' := Unit) (fun s134 _ => [(2, .pointer (some ⟨b1, 0, none⟩)), (3, .pointer (some ⟨b2, 0, none⟩)), (4, .pointer (some ⟨b3, 0, none⟩)), (6, .pointer (some ⟨b13, 0, none⟩)), (8, .int .i64 s119), (9, g133), (10, .int .i64 s132.2), (46, .bool s134)]) (fun s134 _ => [.rd v0_0 p0.Rules, .bx b1 28 [.int .i64 p0.Symbols, .int .i64 p0.States, v0_0], .rd v1_0 p1.Left, .rd v1_1 p1.Right, .bx b2 39 [.int .i64 p1.State, v1_0, v1_1], .bx b3 39 [.int .i64 0, .slice none 0 0, .slice none 0 0], .od 35 (.slice (some ⟨b124, 0, none⟩) s19.1.length cap125) s19.1 g20_1, .ow 97 g20_2 s19.2.1, .bx b13 55 [.pointer (some ⟨b1, 0, none⟩), .pointer none, .int .i64 1, (.slice (some ⟨b124, 0, none⟩) s19.1.length cap125), .int .i64 (w64 (p0.Symbols + 1)), .int .i64 (s19.1.length : Int), g20_2], .ow 2 g133 s132.1]) ?_ (fun s134 g135 => ?_)
                  · refine J_region ?_
                    refine JL_q (wants_none rfl) rfl (ex_move rfl) ?_
                    refine JL_q (wants_none rfl) rfl (ex_fieldAddr fi_39_1 rfl rfl) ?_
                    refine JL_q (wants_none rfl) rfl (ex_load_bx 4 ti_35 rfl rfl rfl) ?_
                    refine JL_q (wants_none rfl) rfl (ex_len_rd 2 Try.underlying35 rfl rfl) ?_
                    refine JL_q (wants_none rfl) rfl (ex_lss rfl rfl) ?_
                    refine JL_q (wants_none rfl) rfl (ex_move rfl) ?_
                    refine JL_cond (fun h136 => ?_) (fun h136 => ?_)
                    · refine JL_passed rfl rfl rfl h136 ?_
                      refine JL_passed rfl rfl rfl h136 ?_
                      refine JL_passed rfl rfl rfl h136 ?_
                      refine JL_passed rfl rfl rfl h136 ?_
                      refine JL_passed rfl rfl rfl h136 ?_
                      refine JL_q (wants_none rfl) rfl (ex_pick_true rfl h136 rfl) ?_
                      refine JL_nil ?_
                      exact N_meet' () ⟨rfl, rfl, rfl, rfl, rfl, rfl, rfl, rfl, trivial⟩ [0, 1, 2, 3, 4, 5, 6, 7, 8, 9] rfl rfl
                    · refine JL_q (wants_some rfl rfl rfl h136) rfl (ex_move rfl) ?_
                      refine JL_q (wants_some rfl rfl rfl h136) rfl (ex_fieldAddr fi_39_2 rfl rfl) ?_
                      refine JL_q (wants_some rfl rfl rfl h136) rfl (ex_load_bx 4 ti_35 rfl rfl rfl) ?_
                      refine JL_q (wants_some rfl rfl rfl h136) rfl (ex_len_rd 3 Try.underlying35 rfl rfl) ?_
                      refine JL_q (wants_some rfl rfl rfl h136) rfl (ex_lss rfl rfl) ?_
                      refine JL_q (wants_none rfl) rfl (ex_pick_false rfl h136 rfl) ?_
                      refine JL_nil ?_
                      exact N_meet' () ⟨rfl, rfl, rfl, rfl, rfl, rfl, rfl, rfl, trivial⟩ [0, 1, 2, 3, 4, 5, 6, 7, 8, 9] rfl rfl
                  · refine N_then ?_
                    refine J_if rfl (fun h137 => ?_) (fun h137 => ?_)
                    · refine J_skip ?_
                      refine N_then ?_
                      refine J_seq ?_
                      refine J_block ?_
                      refine J_draw [9] (by kernel_rfl) ?_
                      refine JP_take (i := 0) [0, 1, 2, 3, 4, 5, 6, 7, 8] [9] rfl (by kernel_rfl) (by kernel_rfl) (by kernel_rfl) rfl rfl (wants_none rfl) rfl (ex_move rfl) ?_
                      refine JP_take (i := 1) [0, 1, 2, 3, 4, 5, 6, 7, 8] [9] rfl (by kernel_rfl) (by kernel_rfl) (by kernel_rfl) rfl rfl (wants_none rfl) rfl (ex_fieldAddr fi_39_2 rfl rfl) ?_
                      refine JP_take (i := 2) [0, 1, 2, 3, 4, 5, 6, 7, 8] [9] rfl (by kernel_rfl) (by kernel_rfl) (by kernel_rfl) rfl rfl (wants_none rfl) rfl (ex_load_bx 4 ti_35 rfl rfl rfl) ?_
                      refine JP_take (i := 3) [0, 1, 2, 3, 4, 5, 6, 7, 8] [9] rfl (by kernel_rfl) (by kernel_rfl) (by kernel_rfl) rfl rfl (wants_none rfl) rfl (ex_move rfl) ?_
                      refine JP_take (i := 5) [0, 1, 2, 3, 4, 5, 6, 7, 8] [9] rfl (by kernel_rfl) (by kernel_rfl) (by kernel_rfl) rfl rfl (wants_none rfl) rfl (ex_fieldAddr fi_39_1 rfl rfl) ?_
                      refine JP_take (i := 6) [0, 1, 2, 3, 4, 5, 6, 7, 8] [9] rfl (by kernel_rfl) (by kernel_rfl) (by kernel_rfl) rfl rfl (wants_none rfl) rfl (ex_load_bx 4 ti_35 rfl rfl rfl) ?_
                      refine JP_take (i := 7) [0, 1, 2, 3, 4, 5, 6, 7, 8] [9] rfl (by kernel_rfl) (by kernel_rfl) (by kernel_rfl) rfl rfl (wants_none rfl) rfl (ex_move rfl) ?_
                      refine JP_go [0, 1, 2, 3, 4, 5, 6, 7, 8] [9] rfl rfl rfl (fun w139 h1_140 hp138 => ?_)
                      refine JD_bnd fun r141 hr142 => ?_
                      refine JD_one (i := 4) (by kernel_rfl) ?_
                      refine JO_call rfl (wants_none rfl) rfl Try.call44 rfl (Ca_of0 fun w hh => c_spec_l13Cell _ w (fun _ hk => hk.elim) _ _ (hh.rd0 3 rfl) _ _ hr142) (fun _ => ?_)
                      refine JD_bnd fun r143 hr144 => ?_
                      refine JD_one (i := 8) (by kernel_rfl) ?_
                      refine JO_call rfl (wants_none rfl) rfl Try.call44 rfl (Ca_of0 fun w hh => c_spec_l13Cell _ w (fun _ hk => hk.elim) _ _ (hh.rd0 2 rfl) _ _ hr144) (fun _ => ?_)
                      refine JD_one (i := 9) (by kernel_rfl) ?_
                      refine JO_st rfl (wants_none rfl) rfl (st_buildSlice (vs := [.int .i64 r141, .int .i64 r143]) ([r141, r143] : List Int) Try.underlying35 ti_2 zi_2 rfl rfl rfl (fun w hh => ⟨(Rd.mk_int _ _ _), (Rd.mk_int _ _ _), trivial⟩)) (fun _ hk => nomatch hk) (fun b145 => ?_)
                      refine JD_bnd fun z146 hz147 => ?_
                      refine JD_one (i := 10) (by kernel_rfl) ?_
                      refine JO_st rfl (wants_none rfl) rfl (st_append 10 Try.underlying35 ti_2 zi_2 rfl bi_2 rfl rfl rfl rfl (fun w hh => hh.src_ow 0 rfl) hz147) (sub_ow 0 rfl) (fun v148 => ?_)
                      refine JD_take (i := 11) hp138 rfl (by kernel_rfl) (by kernel_rfl) (by kernel_rfl) (wants_none rfl) rfl (ex_assign rfl) ?_
                      refine JD_done (by kernel_rfl) ?_
                      refine N_block ?_
                      refine N_then ?_
                      refine J_region ?_
                      refine JL_q (wants_none rfl) rfl (ex_move rfl) ?_
                      refine JL_q (wants_none rfl) rfl (ex_add rfl rfl) ?_
                      refine JL_q (wants_none rfl) rfl (ex_assign rfl) ?_
                      refine JL_nil ?_
                      exact N_next' v148 ⟨rfl, rfl, rfl, rfl, rfl, rfl, rfl, trivial⟩ [1, 2, 3, 4, 5, 6, 7, 8, 9, 10] rfl rfl
                    · refine J_exit ?_
                      refine N_then_exit ?_
                      exact N_break' g133 ⟨rfl, rfl, rfl, rfl, rfl, rfl, rfl, trivial⟩ [0, 1, 2, 3, 4, 5, 6, 7, 8, 9] rfl rfl
                · refine N_then ?_
                  refine J_seq ?_
                  refine J_draw [] (by kernel_rfl) ?_
                  refine JP_take (i := 0) [0, 1, 2, 3, 4, 5, 6, 7, 8, 9] [] rfl (by kernel_rfl) (by kernel_rfl) (by kernel_rfl) rfl rfl (wants_none rfl) rfl (ex_move rfl) ?_
                  refine JP_take (i := 1) [0, 1, 2, 3, 4, 5, 6, 7, 8, 9] [] rfl (by kernel_rfl) (by kernel_rfl) (by kernel_rfl) rfl rfl (wants_none rfl) rfl (ex_fieldAddr fi_28_0 rfl rfl) ?_
                  refine JP_take (i := 2) [0, 1, 2, 3, 4, 5, 6, 7, 8, 9] [] rfl (by kernel_rfl) (by kernel_rfl) (by kernel_rfl) rfl rfl (wants_none rfl) rfl (ex_load_bx 1 ti_2 rfl rfl rfl) ?_
                  refine JP_take (i := 4) [0, 1, 2, 3, 4, 5, 6, 7, 8, 9] [] rfl (by kernel_rfl) (by kernel_rfl) (by kernel_rfl) rfl rfl (wants_none rfl) rfl (ex_move rfl) ?_
                  refine JP_go [0, 1, 2, 3, 4, 5, 6, 7, 8, 9] [] rfl rfl rfl (fun w150 h1_151 hp149 => ?_)
                  refine JD_bnd fun r152 hr153 => ?_
                  refine JD_three (i := 3) (j := 5) (k := 7) (by kernel_rfl) ?_ ?_ ?_
                  · refine JO_st rfl (wants_none rfl) rfl (st_buildSlice (vs := [.int .i64 p0.Symbols]) ([p0.Symbols] : List Int) Try.underlying35 ti_2 zi_2 rfl rfl rfl (fun w hh => ⟨(Rd.mk_int _ _ _), trivial⟩)) (fun _ hk => nomatch hk) (fun b154 => ?_)
                    refine JD_two (i := 5) (j := 7) (by kernel_rfl) ?_ ?_
                    · refine JO_call rfl (wants_none rfl) rfl Try.call45 rfl (Ca_self (fun _ => rfl) fun w hh => c_spec_l05Trim _ w (fun _ hk => hk.elim) _ _ (hh.ow0 10 rfl) _ hr153) (fun x155 => ?_)
                      refine JD_two (i := 6) (j := 7) (by kernel_rfl) ?_ ?_
                      · refine JO_q rfl (wants_none rfl) rfl (ex_build si_39 rfl (.cons fi_39_0 rfl rfl (.cons fi_39_1 rfl rfl (.cons fi_39_2 rfl rfl .nil))) (fun w hh => ⟨cv_int, (hh.cv_ow 1 rfl), (hh.cv_ow 0 rfl), trivial⟩)) ?_
                        refine JD_one (i := 7) (by kernel_rfl) ?_
                        refine JO_st rfl (wants_none rfl) rfl (st_alloc zi_39 rfl) (fun _ hk => nomatch hk) (fun b156 => ?_)
                        refine JD_one (i := 8) (by kernel_rfl) ?_
                        refine JO_sk2 0 [] [0, 1, 2, 3, 4, 5, 6, 7, 8, 9] [3, 4, 5, 6, 7, 8, 9, 10, 11, 12] rfl rfl rfl rfl rfl rfl (wants_none rfl) (sk_store_bx' 0 ti_39 rfl rfl (fun w hh => (cv_aggs ⟨cv_int, (hh.cv_ow 2 rfl), (hh.cv_ow 1 rfl), trivial⟩)) rfl rfl rfl rfl) (fun _ hk => hk) ?_
                        refine JD_done (by kernel_rfl) ?_
                        refine N_then ?_
                        refine J_seq ?_
                        refine J_seq ?_
                        refine J_region ?_
                        refine JL_q (wants_none rfl) rfl (ex_move rfl) ?_
                        refine JL_q (wants_none rfl) rfl (ex_nilCheck rfl) ?_
                        refine JL_q (wants_none rfl) rfl (ex_fieldAddr fi_55_4 rfl rfl) ?_
                        refine JL_bnd fun r157 hr158 => ?_
                        refine JL_call (wants_none rfl) rfl Try.call42 rfl (Ca_of0 fun w hh => c_spec_l05Good _ w (fun _ hk => hk.elim) _ _ (hh.bx_paN (off := 0 + 4) (cs1 := [.int .i64 (w64 (p0.Symbols + 1)), .int .i64 (s19.1.length : Int), g20_2]) 11 rfl rfl (GMachine.rdmk (Rd.mk_int _ _ _) (Rd.mk_int _ _ _) (hh.ow0 10 rfl)) rfl) _ _ (hh.bx_pa 0 rfl (GConfig.rdmk (Rd.mk_int _ _ _) (hh.ow0 2 rfl) (hh.ow0 1 rfl)) rfl) _ hr158) (fun _ => ?_)
                        refine JL_q (wants_none rfl) rfl (ex_not rfl) ?_
                        refine JL_nil ?_
                        refine N_then ?_
                        refine J_if rfl (fun h159 => ?_) (fun h159 => ?_)
                        · refine J_seq ?_
                          refine J_region ?_
                          refine JL_q (wants_none rfl) rfl (ex_build si_39 rfl .nil (fun w hh => trivial)) ?_
                          refine JL_sk (wants_none rfl) (sk_store_bx' 8 ti_39 rfl rfl (fun w hh => (cv_aggs ⟨cv_int, cv_slice, cv_slice, trivial⟩)) rfl rfl rfl rfl) ?_
                          refine JL_q (wants_none rfl) rfl (ex_assign rfl) ?_
                          refine JL_nil ?_
                          refine N_then ?_
                          refine J_ret ?_
                          refine N_then_ret ?_
                          refine N_ctx (fun w hh => SH.ow_nil (α := Int) 2 hh) ?_
                          refine N_ctx (fun w hh => SH.ow_nil (α := Int) 2 hh) ?_
                          exact N_ret2 rfl (rv_cell 10 rfl rfl ti_39 rfl) (rv_tmp rfl) (fun w hh => ⟨((.slice none 0 0 : Value), (.slice none 0 0 : Value)), rfl, hh.sel [1, 0] rfl⟩)
                        · refine J_skip ?_
                          refine N_then ?_
                          refine J_seq ?_
                          refine J_region ?_
                          refine JL_q (wants_none rfl) rfl (ex_load_bx_agg 0 ti_39 rfl rfl rfl rfl) ?_
                          refine JL_sk (wants_none rfl) (sk_store_bx' 8 ti_39 rfl rfl (fun w hh => (cv_aggs ⟨cv_int, (hh.cv_ow 2 rfl), (hh.cv_ow 1 rfl), trivial⟩)) rfl rfl rfl rfl) ?_
                          refine JL_q (wants_none rfl) rfl (ex_assign rfl) ?_
                          refine JL_nil ?_
                          refine N_then ?_
                          refine J_ret ?_
                          exact N_ret2 rfl (rv_cell 8 rfl rfl ti_39 rfl) (rv_tmp rfl) (fun w hh => ⟨((.slice (some ⟨b154, 0, none⟩) 1 1), x155), rfl, hh.sel [2, 1] rfl⟩)
                      · refine JO_st rfl (wants_none rfl) rfl (st_alloc zi_39 rfl) (fun _ hk => nomatch hk) (fun b160 => ?_)
                        refine JD_one (i := 6) (by kernel_rfl) ?_
                        refine JO_q rfl (wants_none rfl) rfl (ex_build si_39 rfl (.cons fi_39_0 rfl rfl (.cons fi_39_1 rfl rfl (.cons fi_39_2 rfl rfl .nil))) (fun w hh => ⟨cv_int, (hh.cv_ow 2 rfl), (hh.cv_ow 1 rfl), trivial⟩)) ?_
                        refine JD_one (i := 8) (by kernel_rfl) ?_
                        refine JO_sk2 0 [] [0, 1, 2, 3, 4, 5, 6, 7, 8, 9] [3, 4, 5, 6, 7, 8, 9, 10, 11, 12] rfl rfl rfl rfl rfl rfl (wants_none rfl) (sk_store_bx' 0 ti_39 rfl rfl (fun w hh => (cv_aggs ⟨cv_int, (hh.cv_ow 2 rfl), (hh.cv_ow 1 rfl), trivial⟩)) rfl rfl rfl rfl) (fun _ hk => hk) ?_
                        refine JD_done (by kernel_rfl) ?_
                        refine N_then ?_
                        refine J_seq ?_
                        refine J_seq ?_
                        refine J_region ?_
                        refine JL_q (wants_none rfl) rfl (ex_move rfl) ?_
                        refine JL_q (wants_none rfl) rfl (ex_nilCheck rfl) ?_
                        refine JL_q (wants_none rfl) rfl (ex_fieldAddr fi_55_4 rfl rfl) ?_
                        refine JL_bnd fun r161 hr162 => ?_
                        refine JL_call (wants_none rfl) rfl Try.call42 rfl (Ca_of0 fun w hh => c_spec_l05Good _ w (fun _ hk => hk.elim) _ _ (hh.bx_paN (off := 0 + 4) (cs1 := [.int .i64 (w64 (p0.Symbols + 1)), .int .i64 (s19.1.length : Int), g20_2]) 11 rfl rfl (GMachine.rdmk (Rd.mk_int _ _ _) (Rd.mk_int _ _ _) (hh.ow0 10 rfl)) rfl) _ _ (hh.bx_pa 0 rfl (GConfig.rdmk (Rd.mk_int _ _ _) (hh.ow0 2 rfl) (hh.ow0 1 rfl)) rfl) _ hr162) (fun _ => ?_)
                        refine JL_q (wants_none rfl) rfl (ex_not rfl) ?_
                        refine JL_nil ?_
                        refine N_then ?_
                        refine J_if rfl (fun h163 => ?_) (fun h163 => ?_)
                        · refine J_seq ?_
                          refine J_region ?_
                          refine JL_q (wants_none rfl) rfl (ex_build si_39 rfl .nil (fun w hh => trivial)) ?_
                          refine JL_sk (wants_none rfl) (sk_store_bx' 8 ti_39 rfl rfl (fun w hh => (cv_aggs ⟨cv_int, cv_slice, cv_slice, trivial⟩)) rfl rfl rfl rfl) ?_
                          refine JL_q (wants_none rfl) rfl (ex_assign rfl) ?_
                          refine JL_nil ?_
                          refine N_then ?_
                          refine J_ret ?_
                          refine N_then_ret ?_
                          refine N_ctx (fun w hh => SH.ow_nil (α := Int) 2 hh) ?_
                          refine N_ctx (fun w hh => SH.ow_nil (α := Int) 2 hh) ?_
                          exact N_ret2 rfl (rv_cell 10 rfl rfl ti_39 rfl) (rv_tmp rfl) (fun w hh => ⟨((.slice none 0 0 : Value), (.slice none 0 0 : Value)), rfl, hh.sel [1, 0] rfl⟩)
                        · refine J_skip ?_
                          refine N_then ?_
                          refine J_seq ?_
                          refine J_region ?_
                          refine JL_q (wants_none rfl) rfl (ex_load_bx_agg 0 ti_39 rfl rfl rfl rfl) ?_
                          refine JL_sk (wants_none rfl) (sk_store_bx' 8 ti_39 rfl rfl (fun w hh => (cv_aggs ⟨cv_int, (hh.cv_ow 2 rfl), (hh.cv_ow 1 rfl), trivial⟩)) rfl rfl rfl rfl) ?_
                          refine JL_q (wants_none rfl) rfl (ex_assign rfl) ?_
                          refine JL_nil ?_
                          refine N_then ?_
                          refine J_ret ?_
                          exact N_ret2 rfl (rv_cell 8 rfl rfl ti_39 rfl) (rv_tmp rfl) (fun w hh => ⟨((.slice (some ⟨b154, 0, none⟩) 1 1), x155), rfl, hh.sel [2, 1] rfl⟩)
                    · refine JO_st rfl (wants_none rfl) rfl (st_alloc zi_39 rfl) (fun _ hk => nomatch hk) (fun b164 => ?_)
                      refine JD_one (i := 5) (by kernel_rfl) ?_
                      refine JO_call rfl (wants_none rfl) rfl Try.call45 rfl (Ca_self (fun _ => rfl) fun w hh => c_spec_l05Trim _ w (fun _ hk => hk.elim) _ _ (hh.ow0 11 rfl) _ hr153) (fun x165 => ?_)
                      refine JD_one (i := 6) (by kernel_rfl) ?_
                      refine JO_q rfl (wants_none rfl) rfl (ex_build si_39 rfl (.cons fi_39_0 rfl rfl (.cons fi_39_1 rfl rfl (.cons fi_39_2 rfl rfl .nil))) (fun w hh => ⟨cv_int, (hh.cv_ow 2 rfl), (hh.cv_ow 0 rfl), trivial⟩)) ?_
                      refine JD_one (i := 8) (by kernel_rfl) ?_
                      refine JO_sk2 1 [] [0, 1, 2, 3, 4, 5, 6, 7, 8, 9] [3, 4, 5, 6, 7, 8, 9, 10, 11, 12] rfl rfl rfl rfl rfl rfl (wants_none rfl) (sk_store_bx' 1 ti_39 rfl rfl (fun w hh => (cv_aggs ⟨cv_int, (hh.cv_ow 2 rfl), (hh.cv_ow 0 rfl), trivial⟩)) rfl rfl rfl rfl) (fun _ hk => hk) ?_
                      refine JD_done (by kernel_rfl) ?_
                      refine N_then ?_
                      refine J_seq ?_
                      refine J_seq ?_
                      refine J_region ?_
                      refine JL_q (wants_none rfl) rfl (ex_move rfl) ?_
                      refine JL_q (wants_none rfl) rfl (ex_nilCheck rfl) ?_
                      refine JL_q (wants_none rfl) rfl (ex_fieldAddr fi_55_4 rfl rfl) ?_
                      refine JL_bnd fun r166 hr167 => ?_
                      refine JL_call (wants_none rfl) rfl Try.call42 rfl (Ca_of0 fun w hh => c_spec_l05Good _ w (fun _ hk => hk.elim) _ _ (hh.bx_paN (off := 0 + 4) (cs1 := [.int .i64 (w64 (p0.Symbols + 1)), .int .i64 (s19.1.length : Int), g20_2]) 11 rfl rfl (GMachine.rdmk (Rd.mk_int _ _ _) (Rd.mk_int _ _ _) (hh.ow0 10 rfl)) rfl) _ _ (hh.bx_pa 1 rfl (GConfig.rdmk (Rd.mk_int _ _ _) (hh.ow0 2 rfl) (hh.ow0 0 rfl)) rfl) _ hr167) (fun _ => ?_)
                      refine JL_q (wants_none rfl) rfl (ex_not rfl) ?_
                      refine JL_nil ?_
                      refine N_then ?_
                      refine J_if rfl (fun h168 => ?_) (fun h168 => ?_)
                      · refine J_seq ?_
                        refine J_region ?_
                        refine JL_q (wants_none rfl) rfl (ex_build si_39 rfl .nil (fun w hh => trivial)) ?_
                        refine JL_sk (wants_none rfl) (sk_store_bx' 8 ti_39 rfl rfl (fun w hh => (cv_aggs ⟨cv_int, cv_slice, cv_slice, trivial⟩)) rfl rfl rfl rfl) ?_
                        refine JL_q (wants_none rfl) rfl (ex_assign rfl) ?_
                        refine JL_nil ?_
                        refine N_then ?_
                        refine J_ret ?_
                        refine N_then_ret ?_
                        refine N_ctx (fun w hh => SH.ow_nil (α := Int) 2 hh) ?_
                        refine N_ctx (fun w hh => SH.ow_nil (α := Int) 2 hh) ?_
                        exact N_ret2 rfl (rv_cell 10 rfl rfl ti_39 rfl) (rv_tmp rfl) (fun w hh => ⟨((.slice none 0 0 : Value), (.slice none 0 0 : Value)), rfl, hh.sel [1, 0] rfl⟩)
                      · refine J_skip ?_
                        refine N_then ?_
                        refine J_seq ?_
                        refine J_region ?_
                        refine JL_q (wants_none rfl) rfl (ex_load_bx_agg 1 ti_39 rfl rfl rfl rfl) ?_
                        refine JL_sk (wants_none rfl) (sk_store_bx' 8 ti_39 rfl rfl (fun w hh => (cv_aggs ⟨cv_int, (hh.cv_ow 2 rfl), (hh.cv_ow 0 rfl), trivial⟩)) rfl rfl rfl rfl) ?_
                        refine JL_q (wants_none rfl) rfl (ex_assign rfl) ?_
                        refine JL_nil ?_
                        refine N_then ?_
                        refine J_ret ?_
                        exact N_ret2 rfl (rv_cell 8 rfl rfl ti_39 rfl) (rv_tmp rfl) (fun w hh => ⟨((.slice (some ⟨b154, 0, none⟩) 1 1), x165), rfl, hh.sel [2, 0] rfl⟩)
                  · refine JO_call rfl (wants_none rfl) rfl Try.call45 rfl (Ca_self (fun _ => rfl) fun w hh => c_spec_l05Trim _ w (fun _ hk => hk.elim) _ _ (hh.ow0 9 rfl) _ hr153) (fun x169 => ?_)
                    refine JD_two (i := 3) (j := 7) (by kernel_rfl) ?_ ?_
                    · refine JO_st rfl (wants_none rfl) rfl (st_buildSlice (vs := [.int .i64 p0.Symbols]) ([p0.Symbols] : List Int) Try.underlying35 ti_2 zi_2 rfl rfl rfl (fun w hh => ⟨(Rd.mk_int _ _ _), trivial⟩)) (fun _ hk => nomatch hk) (fun b170 => ?_)
                      refine JD_two (i := 6) (j := 7) (by kernel_rfl) ?_ ?_
                      · refine JO_q rfl (wants_none rfl) rfl (ex_build si_39 rfl (.cons fi_39_0 rfl rfl (.cons fi_39_1 rfl rfl (.cons fi_39_2 rfl rfl .nil))) (fun w hh => ⟨cv_int, (hh.cv_ow 0 rfl), (hh.cv_ow 1 rfl), trivial⟩)) ?_
                        refine JD_one (i := 7) (by kernel_rfl) ?_
                        refine JO_st rfl (wants_none rfl) rfl (st_alloc zi_39 rfl) (fun _ hk => nomatch hk) (fun b171 => ?_)
                        refine JD_one (i := 8) (by kernel_rfl) ?_
                        refine JO_sk2 0 [] [0, 1, 2, 3, 4, 5, 6, 7, 8, 9] [3, 4, 5, 6, 7, 8, 9, 10, 11, 12] rfl rfl rfl rfl rfl rfl (wants_none rfl) (sk_store_bx' 0 ti_39 rfl rfl (fun w hh => (cv_aggs ⟨cv_int, (hh.cv_ow 1 rfl), (hh.cv_ow 2 rfl), trivial⟩)) rfl rfl rfl rfl) (fun _ hk => hk) ?_
                        refine JD_done (by kernel_rfl) ?_
                        refine N_then ?_
                        refine J_seq ?_
                        refine J_seq ?_
                        refine J_region ?_
                        refine JL_q (wants_none rfl) rfl (ex_move rfl) ?_
                        refine JL_q (wants_none rfl) rfl (ex_nilCheck rfl) ?_
                        refine JL_q (wants_none rfl) rfl (ex_fieldAddr fi_55_4 rfl rfl) ?_
                        refine JL_bnd fun r172 hr173 => ?_
                        refine JL_call (wants_none rfl) rfl Try.call42 rfl (Ca_of0 fun w hh => c_spec_l05Good _ w (fun _ hk => hk.elim) _ _ (hh.bx_paN (off := 0 + 4) (cs1 := [.int .i64 (w64 (p0.Symbols + 1)), .int .i64 (s19.1.length : Int), g20_2]) 11 rfl rfl (GMachine.rdmk (Rd.mk_int _ _ _) (Rd.mk_int _ _ _) (hh.ow0 10 rfl)) rfl) _ _ (hh.bx_pa 0 rfl (GConfig.rdmk (Rd.mk_int _ _ _) (hh.ow0 1 rfl) (hh.ow0 2 rfl)) rfl) _ hr173) (fun _ => ?_)
                        refine JL_q (wants_none rfl) rfl (ex_not rfl) ?_
                        refine JL_nil ?_
                        refine N_then ?_
                        refine J_if rfl (fun h174 => ?_) (fun h174 => ?_)
                        · refine J_seq ?_
                          refine J_region ?_
                          refine JL_q (wants_none rfl) rfl (ex_build si_39 rfl .nil (fun w hh => trivial)) ?_
                          refine JL_sk (wants_none rfl) (sk_store_bx' 8 ti_39 rfl rfl (fun w hh => (cv_aggs ⟨cv_int, cv_slice, cv_slice, trivial⟩)) rfl rfl rfl rfl) ?_
                          refine JL_q (wants_none rfl) rfl (ex_assign rfl) ?_
                          refine JL_nil ?_
                          refine N_then ?_
                          refine J_ret ?_
                          refine N_then_ret ?_
                          refine N_ctx (fun w hh => SH.ow_nil (α := Int) 2 hh) ?_
                          refine N_ctx (fun w hh => SH.ow_nil (α := Int) 2 hh) ?_
                          exact N_ret2 rfl (rv_cell 10 rfl rfl ti_39 rfl) (rv_tmp rfl) (fun w hh => ⟨((.slice none 0 0 : Value), (.slice none 0 0 : Value)), rfl, hh.sel [1, 0] rfl⟩)
                        · refine J_skip ?_
                          refine N_then ?_
                          refine J_seq ?_
                          refine J_region ?_
                          refine JL_q (wants_none rfl) rfl (ex_load_bx_agg 0 ti_39 rfl rfl rfl rfl) ?_
                          refine JL_sk (wants_none rfl) (sk_store_bx' 8 ti_39 rfl rfl (fun w hh => (cv_aggs ⟨cv_int, (hh.cv_ow 1 rfl), (hh.cv_ow 2 rfl), trivial⟩)) rfl rfl rfl rfl) ?_
                          refine JL_q (wants_none rfl) rfl (ex_assign rfl) ?_
                          refine JL_nil ?_
                          refine N_then ?_
                          refine J_ret ?_
                          exact N_ret2 rfl (rv_cell 8 rfl rfl ti_39 rfl) (rv_tmp rfl) (fun w hh => ⟨((.slice (some ⟨b170, 0, none⟩) 1 1), x169), rfl, hh.sel [1, 2] rfl⟩)
                      · refine JO_st rfl (wants_none rfl) rfl (st_alloc zi_39 rfl) (fun _ hk => nomatch hk) (fun b175 => ?_)
                        refine JD_one (i := 6) (by kernel_rfl) ?_
                        refine JO_q rfl (wants_none rfl) rfl (ex_build si_39 rfl (.cons fi_39_0 rfl rfl (.cons fi_39_1 rfl rfl (.cons fi_39_2 rfl rfl .nil))) (fun w hh => ⟨cv_int, (hh.cv_ow 1 rfl), (hh.cv_ow 2 rfl), trivial⟩)) ?_
                        refine JD_one (i := 8) (by kernel_rfl) ?_
                        refine JO_sk2 0 [] [0, 1, 2, 3, 4, 5, 6, 7, 8, 9] [3, 4, 5, 6, 7, 8, 9, 10, 11, 12] rfl rfl rfl rfl rfl rfl (wants_none rfl) (sk_store_bx' 0 ti_39 rfl rfl (fun w hh => (cv_aggs ⟨cv_int, (hh.cv_ow 1 rfl), (hh.cv_ow 2 rfl), trivial⟩)) rfl rfl rfl rfl) (fun _ hk => hk) ?_
                        refine JD_done (by kernel_rfl) ?_
                        refine N_then ?_
                        refine J_seq ?_
                        refine J_seq ?_
                        refine J_region ?_
                        refine JL_q (wants_none rfl) rfl (ex_move rfl) ?_
                        refine JL_q (wants_none rfl) rfl (ex_nilCheck rfl) ?_
                        refine JL_q (wants_none rfl) rfl (ex_fieldAddr fi_55_4 rfl rfl) ?_
                        refine JL_bnd fun r176 hr177 => ?_
                        refine JL_call (wants_none rfl) rfl Try.call42 rfl (Ca_of0 fun w hh => c_spec_l05Good _ w (fun _ hk => hk.elim) _ _ (hh.bx_paN (off := 0 + 4) (cs1 := [.int .i64 (w64 (p0.Symbols + 1)), .int .i64 (s19.1.length : Int), g20_2]) 11 rfl rfl (GMachine.rdmk (Rd.mk_int _ _ _) (Rd.mk_int _ _ _) (hh.ow0 10 rfl)) rfl) _ _ (hh.bx_pa 0 rfl (GConfig.rdmk (Rd.mk_int _ _ _) (hh.ow0 1 rfl) (hh.ow0 2 rfl)) rfl) _ hr177) (fun _ => ?_)
                        refine JL_q (wants_none rfl) rfl (ex_not rfl) ?_
                        refine JL_nil ?_
                        refine N_then ?_
                        refine J_if rfl (fun h178 => ?_) (fun h178 => ?_)
                        · refine J_seq ?_
                          refine J_region ?_
                          refine JL_q (wants_none rfl) rfl (ex_build si_39 rfl .nil (fun w hh => trivial)) ?_
                          refine JL_sk (wants_none rfl) (sk_store_bx' 8 ti_39 rfl rfl (fun w hh => (cv_aggs ⟨cv_int, cv_slice, cv_slice, trivial⟩)) rfl rfl rfl rfl) ?_
                          refine JL_q (wants_none rfl) rfl (ex_assign rfl) ?_
                          refine JL_nil ?_
                          refine N_then ?_
                          refine J_ret ?_
                          refine N_then_ret ?_
                          refine N_ctx (fun w hh => SH.ow_nil (α := Int) 2 hh) ?_
                          refine N_ctx (fun w hh => SH.ow_nil (α := Int) 2 hh) ?_
                          exact N_ret2 rfl (rv_cell 10 rfl rfl ti_39 rfl) (rv_tmp rfl) (fun w hh => ⟨((.slice none 0 0 : Value), (.slice none 0 0 : Value)), rfl, hh.sel [1, 0] rfl⟩)
                        · refine J_skip ?_
                          refine N_then ?_
                          refine J_seq ?_
                          refine J_region ?_
                          refine JL_q (wants_none rfl) rfl (ex_load_bx_agg 0 ti_39 rfl rfl rfl rfl) ?_
                          refine JL_sk (wants_none rfl) (sk_store_bx' 8 ti_39 rfl rfl (fun w hh => (cv_aggs ⟨cv_int, (hh.cv_ow 1 rfl), (hh.cv_ow 2 rfl), trivial⟩)) rfl rfl rfl rfl) ?_
                          refine JL_q (wants_none rfl) rfl (ex_assign rfl) ?_
                          refine JL_nil ?_
                          refine N_then ?_
                          refine J_ret ?_
                          exact N_ret2 rfl (rv_cell 8 rfl rfl ti_39 rfl) (rv_tmp rfl) (fun w hh => ⟨((.slice (some ⟨b170, 0, none⟩) 1 1), x169), rfl, hh.sel [1, 2] rfl⟩)
                    · refine JO_st rfl (wants_none rfl) rfl (st_alloc zi_39 rfl) (fun _ hk => nomatch hk) (fun b179 => ?_)
                      refine JD_one (i := 3) (by kernel_rfl) ?_
                      refine JO_st rfl (wants_none rfl) rfl (st_buildSlice (vs := [.int .i64 p0.Symbols]) ([p0.Symbols] : List Int) Try.underlying35 ti_2 zi_2 rfl rfl rfl (fun w hh => ⟨(Rd.mk_int _ _ _), trivial⟩)) (fun _ hk => nomatch hk) (fun b180 => ?_)
                      refine JD_one (i := 6) (by kernel_rfl) ?_
                      refine JO_q rfl (wants_none rfl) rfl (ex_build si_39 rfl (.cons fi_39_0 rfl rfl (.cons fi_39_1 rfl rfl (.cons fi_39_2 rfl rfl .nil))) (fun w hh => ⟨cv_int, (hh.cv_ow 0 rfl), (hh.cv_ow 2 rfl), trivial⟩)) ?_
                      refine JD_one (i := 8) (by kernel_rfl) ?_
                      refine JO_sk2 1 [] [0, 1, 2, 3, 4, 5, 6, 7, 8, 9] [3, 4, 5, 6, 7, 8, 9, 10, 11, 12] rfl rfl rfl rfl rfl rfl (wants_none rfl) (sk_store_bx' 1 ti_39 rfl rfl (fun w hh => (cv_aggs ⟨cv_int, (hh.cv_ow 0 rfl), (hh.cv_ow 2 rfl), trivial⟩)) rfl rfl rfl rfl) (fun _ hk => hk) ?_
                      refine JD_done (by kernel_rfl) ?_
                      refine N_then ?_
                      refine J_seq ?_
                      refine J_seq ?_
                      refine J_region ?_
                      refine JL_q (wants_none rfl) rfl (ex_move rfl) ?_
                      refine JL_q (wants_none rfl) rfl (ex_nilCheck rfl) ?_
                      refine JL_q (wants_none rfl) rfl (ex_fieldAddr fi_55_4 rfl rfl) ?_
                      refine JL_bnd fun r181 hr182 => ?_
                      refine JL_call (wants_none rfl) rfl Try.call42 rfl (Ca_of0 fun w hh => c_spec_l05Good _ w (fun _ hk => hk.elim) _ _ (hh.bx_paN (off := 0 + 4) (cs1 := [.int .i64 (w64 (p0.Symbols + 1)), .int .i64 (s19.1.length : Int), g20_2]) 11 rfl rfl (GMachine.rdmk (Rd.mk_int _ _ _) (Rd.mk_int _ _ _) (hh.ow0 10 rfl)) rfl) _ _ (hh.bx_pa 1 rfl (GConfig.rdmk (Rd.mk_int _ _ _) (hh.ow0 0 rfl) (hh.ow0 2 rfl)) rfl) _ hr182) (fun _ => ?_)
                      refine JL_q (wants_none rfl) rfl (ex_not rfl) ?_
                      refine JL_nil ?_
                      refine N_then ?_
                      refine J_if rfl (fun h183 => ?_) (fun h183 => ?_)
                      · refine J_seq ?_
                        refine J_region ?_
                        refine JL_q (wants_none rfl) rfl (ex_build si_39 rfl .nil (fun w hh => trivial)) ?_
                        refine JL_sk (wants_none rfl) (sk_store_bx' 8 ti_39 rfl rfl (fun w hh => (cv_aggs ⟨cv_int, cv_slice, cv_slice, trivial⟩)) rfl rfl rfl rfl) ?_
                        refine JL_q (wants_none rfl) rfl (ex_assign rfl) ?_
                        refine JL_nil ?_
                        refine N_then ?_
                        refine J_ret ?_
                        refine N_then_ret ?_
                        refine N_ctx (fun w hh => SH.ow_nil (α := Int) 2 hh) ?_
                        refine N_ctx (fun w hh => SH.ow_nil (α := Int) 2 hh) ?_
                        exact N_ret2 rfl (rv_cell 10 rfl rfl ti_39 rfl) (rv_tmp rfl) (fun w hh => ⟨((.slice none 0 0 : Value), (.slice none 0 0 : Value)), rfl, hh.sel [1, 0] rfl⟩)
                      · refine J_skip ?_
                        refine N_then ?_
                        refine J_seq ?_
                        refine J_region ?_
                        refine JL_q (wants_none rfl) rfl (ex_load_bx_agg 1 ti_39 rfl rfl rfl rfl) ?_
                        refine JL_sk (wants_none rfl) (sk_store_bx' 8 ti_39 rfl rfl (fun w hh => (cv_aggs ⟨cv_int, (hh.cv_ow 0 rfl), (hh.cv_ow 2 rfl), trivial⟩)) rfl rfl rfl rfl) ?_
                        refine JL_q (wants_none rfl) rfl (ex_assign rfl) ?_
                        refine JL_nil ?_
                        refine N_then ?_
                        refine J_ret ?_
                        exact N_ret2 rfl (rv_cell 8 rfl rfl ti_39 rfl) (rv_tmp rfl) (fun w hh => ⟨((.slice (some ⟨b180, 0, none⟩) 1 1), x169), rfl, hh.sel [0, 2] rfl⟩)
                  · refine JO_st rfl (wants_none rfl) rfl (st_alloc zi_39 rfl) (fun _ hk => nomatch hk) (fun b184 => ?_)
                    refine JD_two (i := 3) (j := 5) (by kernel_rfl) ?_ ?_
                    · refine JO_st rfl (wants_none rfl) rfl (st_buildSlice (vs := [.int .i64 p0.Symbols]) ([p0.Symbols] : List Int) Try.underlying35 ti_2 zi_2 rfl rfl rfl (fun w hh => ⟨(Rd.mk_int _ _ _), trivial⟩)) (fun _ hk => nomatch hk) (fun b185 => ?_)
                      refine JD_one (i := 5) (by kernel_rfl) ?_
                      refine JO_call rfl (wants_none rfl) rfl Try.call45 rfl (Ca_self (fun _ => rfl) fun w hh => c_spec_l05Trim _ w (fun _ hk => hk.elim) _ _ (hh.ow0 11 rfl) _ hr153) (fun x186 => ?_)
                      refine JD_one (i := 6) (by kernel_rfl) ?_
                      refine JO_q rfl (wants_none rfl) rfl (ex_build si_39 rfl (.cons fi_39_0 rfl rfl (.cons fi_39_1 rfl rfl (.cons fi_39_2 rfl rfl .nil))) (fun w hh => ⟨cv_int, (hh.cv_ow 1 rfl), (hh.cv_ow 0 rfl), trivial⟩)) ?_
                      refine JD_one (i := 8) (by kernel_rfl) ?_
                      refine JO_sk2 2 [] [0, 1, 2, 3, 4, 5, 6, 7, 8, 9] [3, 4, 5, 6, 7, 8, 9, 10, 11, 12] rfl rfl rfl rfl rfl rfl (wants_none rfl) (sk_store_bx' 2 ti_39 rfl rfl (fun w hh => (cv_aggs ⟨cv_int, (hh.cv_ow 1 rfl), (hh.cv_ow 0 rfl), trivial⟩)) rfl rfl rfl rfl) (fun _ hk => hk) ?_
                      refine JD_done (by kernel_rfl) ?_
                      refine N_then ?_
                      refine J_seq ?_
                      refine J_seq ?_
                      refine J_region ?_
                      refine JL_q (wants_none rfl) rfl (ex_move rfl) ?_
                      refine JL_q (wants_none rfl) rfl (ex_nilCheck rfl) ?_
                      refine JL_q (wants_none rfl) rfl (ex_fieldAddr fi_55_4 rfl rfl) ?_
                      refine JL_bnd fun r187 hr188 => ?_
                      refine JL_call (wants_none rfl) rfl Try.call42 rfl (Ca_of0 fun w hh => c_spec_l05Good _ w (fun _ hk => hk.elim) _ _ (hh.bx_paN (off := 0 + 4) (cs1 := [.int .i64 (w64 (p0.Symbols + 1)), .int .i64 (s19.1.length : Int), g20_2]) 11 rfl rfl (GMachine.rdmk (Rd.mk_int _ _ _) (Rd.mk_int _ _ _) (hh.ow0 10 rfl)) rfl) _ _ (hh.bx_pa 2 rfl (GConfig.rdmk (Rd.mk_int _ _ _) (hh.ow0 1 rfl) (hh.ow0 0 rfl)) rfl) _ hr188) (fun _ => ?_)
                      refine JL_q (wants_none rfl) rfl (ex_not rfl) ?_
                      refine JL_nil ?_
                      refine N_then ?_
                      refine J_if rfl (fun h189 => ?_) (fun h189 => ?_)
                      · refine J_seq ?_
                        refine J_region ?_
                        refine JL_q (wants_none rfl) rfl (ex_build si_39 rfl .nil (fun w hh => trivial)) ?_
                        refine JL_sk (wants_none rfl) (sk_store_bx' 8 ti_39 rfl rfl (fun w hh => (cv_aggs ⟨cv_int, cv_slice, cv_slice, trivial⟩)) rfl rfl rfl rfl) ?_
                        refine JL_q (wants_none rfl) rfl (ex_assign rfl) ?_
                        refine JL_nil ?_
                        refine N_then ?_
                        refine J_ret ?_
                        refine N_then_ret ?_
                        refine N_ctx (fun w hh => SH.ow_nil (α := Int) 2 hh) ?_
                        refine N_ctx (fun w hh => SH.ow_nil (α := Int) 2 hh) ?_
                        exact N_ret2 rfl (rv_cell 10 rfl rfl ti_39 rfl) (rv_tmp rfl) (fun w hh => ⟨((.slice none 0 0 : Value), (.slice none 0 0 : Value)), rfl, hh.sel [1, 0] rfl⟩)
                      · refine J_skip ?_
                        refine N_then ?_
                        refine J_seq ?_
                        refine J_region ?_
                        refine JL_q (wants_none rfl) rfl (ex_load_bx_agg 2 ti_39 rfl rfl rfl rfl) ?_
                        refine JL_sk (wants_none rfl) (sk_store_bx' 8 ti_39 rfl rfl (fun w hh => (cv_aggs ⟨cv_int, (hh.cv_ow 1 rfl), (hh.cv_ow 0 rfl), trivial⟩)) rfl rfl rfl rfl) ?_
                        refine JL_q (wants_none rfl) rfl (ex_assign rfl) ?_
                        refine JL_nil ?_
                        refine N_then ?_
                        refine J_ret ?_
                        exact N_ret2 rfl (rv_cell 8 rfl rfl ti_39 rfl) (rv_tmp rfl) (fun w hh => ⟨((.slice (some ⟨b185, 0, none⟩) 1 1), x186), rfl, hh.sel [1, 0] rfl⟩)
                    · refine JO_call rfl (wants_none rfl) rfl Try.call45 rfl (Ca_self (fun _ => rfl) fun w hh => c_spec_l05Trim _ w (fun _ hk => hk.elim) _ _ (hh.ow0 10 rfl) _ hr153) (fun x190 => ?_)
                      refine JD_one (i := 3) (by kernel_rfl) ?_
                      refine JO_st rfl (wants_none rfl) rfl (st_buildSlice (vs := [.int .i64 p0.Symbols]) ([p0.Symbols] : List Int) Try.underlying35 ti_2 zi_2 rfl rfl rfl (fun w hh => ⟨(Rd.mk_int _ _ _), trivial⟩)) (fun _ hk => nomatch hk) (fun b191 => ?_)
                      refine JD_one (i := 6) (by kernel_rfl) ?_
                      refine JO_q rfl (wants_none rfl) rfl (ex_build si_39 rfl (.cons fi_39_0 rfl rfl (.cons fi_39_1 rfl rfl (.cons fi_39_2 rfl rfl .nil))) (fun w hh => ⟨cv_int, (hh.cv_ow 0 rfl), (hh.cv_ow 1 rfl), trivial⟩)) ?_
                      refine JD_one (i := 8) (by kernel_rfl) ?_
                      refine JO_sk2 2 [] [0, 1, 2, 3, 4, 5, 6, 7, 8, 9] [3, 4, 5, 6, 7, 8, 9, 10, 11, 12] rfl rfl rfl rfl rfl rfl (wants_none rfl) (sk_store_bx' 2 ti_39 rfl rfl (fun w hh => (cv_aggs ⟨cv_int, (hh.cv_ow 0 rfl), (hh.cv_ow 1 rfl), trivial⟩)) rfl rfl rfl rfl) (fun _ hk => hk) ?_
                      refine JD_done (by kernel_rfl) ?_
                      refine N_then ?_
                      refine J_seq ?_
                      refine J_seq ?_
                      refine J_region ?_
                      refine JL_q (wants_none rfl) rfl (ex_move rfl) ?_
                      refine JL_q (wants_none rfl) rfl (ex_nilCheck rfl) ?_
                      refine JL_q (wants_none rfl) rfl (ex_fieldAddr fi_55_4 rfl rfl) ?_
                      refine JL_bnd fun r192 hr193 => ?_
                      refine JL_call (wants_none rfl) rfl Try.call42 rfl (Ca_of0 fun w hh => c_spec_l05Good _ w (fun _ hk => hk.elim) _ _ (hh.bx_paN (off := 0 + 4) (cs1 := [.int .i64 (w64 (p0.Symbols + 1)), .int .i64 (s19.1.length : Int), g20_2]) 11 rfl rfl (GMachine.rdmk (Rd.mk_int _ _ _) (Rd.mk_int _ _ _) (hh.ow0 10 rfl)) rfl) _ _ (hh.bx_pa 2 rfl (GConfig.rdmk (Rd.mk_int _ _ _) (hh.ow0 0 rfl) (hh.ow0 1 rfl)) rfl) _ hr193) (fun _ => ?_)
                      refine JL_q (wants_none rfl) rfl (ex_not rfl) ?_
                      refine JL_nil ?_
                      refine N_then ?_
                      refine J_if rfl (fun h194 => ?_) (fun h194 => ?_)
                      · refine J_seq ?_
                        refine J_region ?_
                        refine JL_q (wants_none rfl) rfl (ex_build si_39 rfl .nil (fun w hh => trivial)) ?_
                        refine JL_sk (wants_none rfl) (sk_store_bx' 8 ti_39 rfl rfl (fun w hh => (cv_aggs ⟨cv_int, cv_slice, cv_slice, trivial⟩)) rfl rfl rfl rfl) ?_
                        refine JL_q (wants_none rfl) rfl (ex_assign rfl) ?_
                        refine JL_nil ?_
                        refine N_then ?_
                        refine J_ret ?_
                        refine N_then_ret ?_
                        refine N_ctx (fun w hh => SH.ow_nil (α := Int) 2 hh) ?_
                        refine N_ctx (fun w hh => SH.ow_nil (α := Int) 2 hh) ?_
                        exact N_ret2 rfl (rv_cell 10 rfl rfl ti_39 rfl) (rv_tmp rfl) (fun w hh => ⟨((.slice none 0 0 : Value), (.slice none 0 0 : Value)), rfl, hh.sel [1, 0] rfl⟩)
                      · refine J_skip ?_
                        refine N_then ?_
                        refine J_seq ?_
                        refine J_region ?_
                        refine JL_q (wants_none rfl) rfl (ex_load_bx_agg 2 ti_39 rfl rfl rfl rfl) ?_
                        refine JL_sk (wants_none rfl) (sk_store_bx' 8 ti_39 rfl rfl (fun w hh => (cv_aggs ⟨cv_int, (hh.cv_ow 0 rfl), (hh.cv_ow 1 rfl), trivial⟩)) rfl rfl rfl rfl) ?_
                        refine JL_q (wants_none rfl) rfl (ex_assign rfl) ?_
                        refine JL_nil ?_
                        refine N_then ?_
                        refine J_ret ?_
                        exact N_ret2 rfl (rv_cell 8 rfl rfl ti_39 rfl) (rv_tmp rfl) (fun w hh => ⟨((.slice (some ⟨b191, 0, none⟩) 1 1), x190), rfl, hh.sel [0, 1] rfl⟩)
            · refine J_skip ?_
              refine N_block ?_
              refine N_then ?_
              refine J_region ?_
              refine JL_q (wants_none rfl) rfl (ex_move rfl) ?_
              refine JL_q (wants_none rfl) rfl (ex_add rfl rfl) ?_
              refine JL_q (wants_none rfl) rfl (ex_assign rfl) ?_
              refine JL_nil ?_
              exact N_next' () ⟨rfl, rfl, rfl, trivial⟩ [1, 2, 3, 4, 5, 6, 7, 8, 9, 10] rfl rfl
          · refine J_exit ?_
            refine N_then_exit ?_
            exact N_break' () ⟨rfl, rfl, rfl, trivial⟩ [0, 1, 2, 3, 4, 5, 6, 7, 8, 9] rfl rfl
        · refine N_then ?_
          refine J_seq ?_
          refine J_region ?_
          refine JL_q (wants_none rfl) rfl (ex_assign rfl) ?_
          refine JL_nil ?_
          refine N_then ?_
          refine J_ret ?_
          refine N_inl1 hK118 rfl (rv_tmp rfl) ?_
          refine JL_q (wants_none rfl) rfl (ex_assign rfl) ?_
          refine JL_nil ?_
          refine N_then ?_
          refine J_seq ?_
          refine J_seq ?_
          refine J_region ?_
          refine JL_q (wants_none rfl) rfl (ex_move rfl) ?_
          refine JL_q (wants_none rfl) rfl (ex_lss rfl rfl) ?_
          refine JL_nil ?_
          refine N_then ?_
          refine J_if_true rfl (by decide) ?_
          refine J_seq ?_
          refine J_region ?_
          refine JL_q (wants_none rfl) rfl (ex_build si_39 rfl .nil (fun w hh => trivial)) ?_
          refine JL_sk (wants_none rfl) (sk_store_bx' 9 ti_39 rfl rfl (fun w hh => (cv_aggs ⟨cv_int, cv_slice, cv_slice, trivial⟩)) rfl rfl rfl rfl) ?_
          refine JL_q (wants_none rfl) rfl (ex_assign rfl) ?_
          refine JL_nil ?_
          refine N_then ?_
          refine J_ret ?_
          refine N_then_ret ?_
          refine N_ctx (fun w hh => SH.ow_nil (α := Int) 2 hh) ?_
          refine N_ctx (fun w hh => SH.ow_nil (α := Int) 2 hh) ?_
          exact N_ret2 rfl (rv_cell 11 rfl rfl ti_39 rfl) (rv_tmp rfl) (fun w hh => ⟨((.slice none 0 0 : Value), (.slice none 0 0 : Value)), rfl, hh.sel [1, 0] rfl⟩)

set_option maxHeartbeats 40000000 in
theorem c_impl_symbolAt (A : Nat → Prop) (w : World) (hA : ∀ k, A k → k < w.heap.size) (v0_ : Value) (p0 : (List Int)) (hp0 : Rd A w v0_ p0) (p1 : Int) (r : Int) (hr : F_impl_symbolAt p0 p1 = some r) :
    Con Try.prog 48 [v0_, .int .i64 p1] A w (fun x_ : Unit => .int .i64 r) (fun x_ => []) := by
  refine Con_of (v := fun (r : Int) (x_ : Unit) => .int .i64 r) (fs := fun r x_ => []) Try.func48 rfl Try.ntmps48 rfl ((SH.start hA).start_rd rfl hp0) rfl ?_ hr
  unfold F_impl_symbolAt
  refine J_seq ?_
  refine J_region ?_
  refine JL_q (wants_none rfl) rfl (ex_assign rfl) ?_
  refine JL_nil ?_
  refine N_then ?_
  refine J_seq ?_
  refine J_seq ?_
  refine J_region ?_
  refine JL_q (wants_none rfl) rfl (ex_move rfl) ?_
  refine JL_q (wants_none rfl) rfl (ex_move rfl) ?_
  refine JL_q (wants_none rfl) rfl (ex_len_rd 0 Try.underlying35 rfl rfl) ?_
  refine JL_q (wants_none rfl) rfl (ex_geq rfl rfl) ?_
  refine JL_nil ?_
  refine N_then ?_
  refine J_if rfl (fun h1 => ?_) (fun h1 => ?_)
  · refine J_seq ?_
    refine J_region ?_
    refine JL_q (wants_none rfl) rfl (ex_assign rfl) ?_
    refine JL_nil ?_
    refine N_then ?_
    refine J_ret ?_
    refine N_then_ret ?_
    exact N_ret1 rfl (rv_tmp rfl) (fun w hh => ⟨(), rfl, hh.sel [] rfl⟩)
  · refine J_skip ?_
    refine N_then ?_
    refine J_seq ?_
    refine J_region ?_
    refine JL_q (wants_none rfl) rfl (ex_move rfl) ?_
    refine JL_q (wants_none rfl) rfl (ex_move rfl) ?_
    refine JL_bnd fun y2 hy3 => ?_
    refine JL_st (wants_none rfl) rfl (st_index 0 Try.underlying35 ti_2 rfl rfl rfl hy3) (fun q4 => ?_)
    refine JL_st (wants_none rfl) rfl (st_load_pt_o 0 (opens_int _) ti_2 rfl rfl) (fun _ => ?_)
    refine JL_q (wants_none rfl) rfl (ex_assign rfl) ?_
    refine JL_nil ?_
    refine N_then ?_
    refine J_ret ?_
    exact N_ret1 rfl (rv_tmp rfl) (fun w hh => ⟨(), rfl, hh.sel [] rfl⟩)

end Go.Proofs.Ytceimgjcikkadaa
