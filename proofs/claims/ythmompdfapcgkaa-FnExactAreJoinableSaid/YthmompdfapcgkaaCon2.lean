/-
  Each function of the program computes what its plain function says: printed by program. No condition.
-/
import Derived.Test.YthmompdfapcgkaaFn
import Derived.Test.YthmompdfapcgkaaInf
import Derived.Test.YthmompdfapcgkaaCon1
namespace Go.Proofs.Ythmompdfapcgkaa
open Go Go.Tc Go.Fn
set_option linter.unusedVariables false

set_option maxHeartbeats 40000000 in
theorem c_spec_l10Find (A : Nat → Prop) (w : World) (hA : ∀ k, A k → k < w.heap.size) (v0_ : Value) (p0 : (List GRewrite)) (hp0 : Rd A w v0_ p0) (v1_ : Value) (p1 : (List Int)) (hp1 : Rd A w v1_ p1) (p2 : Int) (r : ((List (List Int)) × (List Int) × (List (List Int)) × Bool)) (hr : F_spec_l10Find p0 p1 p2 = some r) :
    Con Try.prog 70 [v0_, v1_, .int .i64 p2] A w (fun x_ : Value × Value × Value × Nat => .pointer (some ⟨x_.2.2.2, 0, none⟩)) (fun x_ => [.ow 23 x_.1 r.1, .ow 2 x_.2.1 r.2.1, .ow 23 x_.2.2.1 r.2.2.1, .bx x_.2.2.2 117 [x_.1, x_.2.1, x_.2.2.1, .bool r.2.2.2]]) := by
  refine Con_of (v := fun (r : ((List (List Int)) × (List Int) × (List (List Int)) × Bool)) (x_ : Value × Value × Value × Nat) => .pointer (some ⟨x_.2.2.2, 0, none⟩)) (fs := fun r x_ => [.ow 23 x_.1 r.1, .ow 2 x_.2.1 r.2.1, .ow 23 x_.2.2.1 r.2.2.1, .bx x_.2.2.2 117 [x_.1, x_.2.1, x_.2.2.1, .bool r.2.2.2]]) Try.func70 rfl Try.ntmps70 rfl (((SH.start hA).start_rd rfl hp0).start_rd rfl hp1) rfl ?_ hr
  unfold F_spec_l10Find
  refine J_seq ?_
  refine J_region ?_
  refine JL_q (wants_none rfl) rfl (ex_assign rfl) ?_
  refine JL_nil ?_
  refine N_then ?_
  refine J_seq ?_
  refine J_region ?_
  refine JL_q (wants_none rfl) rfl (ex_move rfl) ?_
  refine JL_bnd fun r1 hr2 => ?_
  refine JL_call (wants_none rfl) rfl Try.call48 rfl (Ca_self (fun _ => rfl) fun w hh => c_spec_l00Own _ w (fun _ hk => hk.elim) _ _ (hh.rd0 0 rfl) _ hr2) (fun x3 => ?_)
  refine JL_ctx (fun w hh => hh.tokf 0 rfl rfl) ?_
  refine JL_st (wants_none rfl) rfl (st_buildSlice_od (vs := [x3]) (B := (((x3 : Value).ownBlock.toList ++ []) ++ [])) ([r1] : List (List Int)) [0] Try.underlying33 ti_23 zi_23 rfl rfl rfl rfl rfl (fun w hh => (dwv_cons (hh.dw 0 rfl) dwv_nil))) (fun b4 => ?_)
  refine JL_st (wants_none rfl) rfl (st_buildSlice (vs := [.int .i64 (-1)]) ([(-1)] : List Int) Try.underlying23 ti_2 zi_2 rfl rfl rfl (fun w hh => ⟨(Rd.mk_int _ _ _), trivial⟩)) (fun b5 => ?_)
  refine JL_st (wants_none rfl) rfl (st_buildSlice_od (vs := [.slice none 0 0]) (B := ([] : List Nat)) ([([] : (List Int))] : List (List Int)) [] Try.underlying33 ti_23 zi_23 rfl rfl rfl rfl rfl (fun w hh => (dwv_cons dw_nil dwv_nil))) (fun b6 => ?_)
  refine JL_q (wants_none rfl) rfl (ex_build si_117 rfl (.cons fi_117_0 rfl rfl (.cons fi_117_1 rfl rfl (.cons fi_117_2 rfl rfl (.cons fi_117_3 rfl rfl .nil)))) (fun w hh => ⟨(hh.cv_od 2 rfl), (hh.cv_ow 1 rfl), (hh.cv_od 0 rfl), cv_bool, trivial⟩)) ?_
  refine JL_st (wants_none rfl) rfl (st_box' rfl (fun w hh => (cv_aggs ⟨(hh.cv_od 2 rfl), (hh.cv_ow 1 rfl), (hh.cv_od 0 rfl), cv_bool, trivial⟩))) (fun b7 => ?_)
  refine JL_q (wants_none rfl) rfl (ex_assign rfl) ?_
  refine JL_nil ?_
  refine N_then ?_
  refine J_seq ?_
  refine J_region ?_
  refine JL_q (wants_none rfl) rfl (ex_move rfl) ?_
  refine JL_bnd fun r8 hr9 => ?_
  refine JL_call (wants_none rfl) rfl Try.call102 rfl (Ca_of0 fun w hh => c_spec_l10Key _ w (fun _ hk => hk.elim) _ _ (hh.rd0 6 rfl) _ hr9) (fun _ => ?_)
  refine JL_st (wants_none rfl) rfl (st_buildSlice (vs := [.string r8]) ([r8] : List ByteArray) Try.underlying141 ti_9 zi_9 rfl rfl rfl (fun w hh => ⟨(Rd.mk_str _ _ _), trivial⟩)) (fun b10 => ?_)
  refine JL_q (wants_none rfl) rfl (ex_assign rfl) ?_
  refine JL_nil ?_
  refine N_then ?_
  refine J_seq ?_
  refine J_seq ?_
  refine J_region ?_
  refine JL_q (wants_none rfl) rfl (ex_assign rfl) ?_
  refine JL_nil ?_
  refine N_then ?_
  refine J_ctx (fun w hh => hh.od_ow 4 rfl) ?_
  refine J_ctx (fun w hh => hh.od_ow 2 rfl) ?_
  refine J_loop' (S := (List (List Int)) × (List Int) × (List (List Int)) × Bool × (List ByteArray) × Int) (G := Value × Value × Value × Value) (F_spec_l10Find_L1 p0 p2) (fun s11 g12 => [(0, v0_), (2, .int .i64 p2), (7, .pointer (some ⟨b7, 0, none⟩)), (8, g12.2.2.2), (9, .int .i64 s11.2.2.2.2.2)]) (fun s11 g12 => [.rd v0_ p0, .ow 23 g12.1 s11.1, .ow 2 g12.2.1 s11.2.1, .ow 23 g12.2.2.1 s11.2.2.1, .bx b7 117 [g12.1, g12.2.1, g12.2.2.1, .bool s11.2.2.2.1], .ow 9 g12.2.2.2 s11.2.2.2.2.1]) (([r1] : List (List Int)), ([(-1)] : List Int), ([([] : (List Int))] : List (List Int)), true, ([r8] : List ByteArray), 0) ((.slice (some ⟨b4, 0, none⟩) 1 1), (.slice (some ⟨b5, 0, none⟩) 1 1), (.slice (some ⟨b6, 0, none⟩) 1 1), (.slice (some ⟨b10, 0, none⟩) 1 1)) ⟨rfl, rfl, rfl, rfl, rfl, trivial⟩ [8, 4, 3, 2, 1, 0] rfl rfl (fun s11 g12 => ?_) (fun s11 g12 => ?_)
  · obtain ⟨g12_0, g12_1, g12_2, g12_3⟩ := g12
    unfold F_spec_l10Find_L1
    refine J_seq ?_
    refine J_seq ?_
    refine J_region ?_
    refine JL_q (wants_none rfl) rfl (ex_move rfl) ?_
    refine JL_q (wants_none rfl) rfl (ex_move rfl) ?_
    refine JL_q (wants_none rfl) rfl (ex_nilCheck rfl) ?_
    refine JL_q (wants_none rfl) rfl (ex_fieldAddr fi_117_0 rfl rfl) ?_
    refine JL_q (wants_none rfl) rfl (ex_load_bx 4 ti_33 rfl rfl rfl) ?_
    refine JL_q (wants_none rfl) rfl (ex_len_ow 1 Try.underlying33 rfl rfl) ?_
    refine JL_q (wants_none rfl) rfl (ex_lss rfl rfl) ?_
    refine JL_nil ?_
    refine N_then ?_
    refine J_if rfl (fun h13 => ?_) (fun h13 => ?_)
    · refine J_skip ?_
      refine N_then ?_
      refine J_seq ?_
      refine J_block ?_
      refine J_seq ?_
      refine J_seq ?_
      refine J_region ?_
      refine JL_q (wants_none rfl) rfl (ex_move rfl) ?_
      refine JL_q (wants_none rfl) rfl (ex_move rfl) ?_
      refine JL_q (wants_none rfl) rfl (ex_eql rfl rfl) ?_
      refine JL_nil ?_
      refine N_then ?_
      refine J_if rfl (fun h14 => ?_) (fun h14 => ?_)
      · refine J_seq ?_
        refine J_region ?_
        refine JL_q (wants_none rfl) rfl (ex_move rfl) ?_
        refine JL_q (wants_none rfl) rfl (ex_nilCheck rfl) ?_
        refine JL_q (wants_none rfl) rfl (ex_fieldAddr fi_117_3 rfl rfl) ?_
        refine JL_sk (wants_none rfl) (sk_store_bx' 4 ti_4 rfl rfl (fun w hh => cv_bool) rfl rfl rfl rfl) ?_
        refine JL_nil ?_
        refine N_then ?_
        refine J_seq ?_
        refine J_region ?_
        refine JL_q (wants_none rfl) rfl (ex_move rfl) ?_
        refine JL_q (wants_none rfl) rfl (ex_assign rfl) ?_
        refine JL_nil ?_
        refine N_then ?_
        refine J_ret ?_
        refine N_then_ret ?_
        refine N_block_ret ?_
        refine N_then_ret ?_
        refine N_round_ret ?_
        refine N_then_ret ?_
        exact N_ret1 rfl (rv_tmp rfl) (fun w hh => ⟨(g12_0, g12_1, g12_2, b7), rfl, hh.sel [1, 2, 3, 4] rfl⟩)
      · refine J_skip ?_
        refine N_then ?_
        refine J_seq ?_
        refine J_region ?_
        refine JL_q (wants_none rfl) rfl (ex_move rfl) ?_
        refine JL_q (wants_none rfl) rfl (ex_move rfl) ?_
        refine JL_q (wants_none rfl) rfl (ex_nilCheck rfl) ?_
        refine JL_q (wants_none rfl) rfl (ex_fieldAddr fi_117_0 rfl rfl) ?_
        refine JL_q (wants_none rfl) rfl (ex_load_bx 4 ti_33 rfl rfl rfl) ?_
        refine JL_q (wants_none rfl) rfl (ex_move rfl) ?_
        refine JL_bnd fun y15 hy16 => ?_
        refine JL_ow_open (v := g12_0) 1 rfl hy16 ?_; rintro b17 cap18 rfl
        refine JL_q (wants_none rfl) rfl (ex_index_ow 1 Try.underlying33 ti_23 rfl rfl rfl hy16) ?_
        refine JL_st (wants_none rfl) rfl (st_load_ow_o 1 (opens_sl _) ti_23 rfl rfl hy16) (fun v19 => ?_)
        refine JL_bnd fun r20 hr21 => ?_
        refine JL_call (wants_none rfl) rfl Try.call103 rfl (Ca_self (fun _ => rfl) fun w hh => c_spec_l10Next _ w (fun _ hk => hk.elim) _ _ (hh.rd0 1 rfl) _ _ (hh.rd0 0 rfl) _ hr21) (fun x22 => ?_)
        obtain ⟨x22_0, x22_1, x22_2, x22_3⟩ := x22
        refine JL_q (wants_none rfl) rfl (ex_move rfl) ?_
        refine JL_q (wants_none rfl) rfl (ex_extract rfl rfl) ?_
        refine JL_q (wants_none rfl) rfl (ex_extract rfl rfl) ?_
        refine JL_q (wants_none rfl) rfl (ex_extract rfl rfl) ?_
        refine JL_q (wants_none rfl) rfl (ex_assign rfl) ?_
        refine JL_q (wants_none rfl) rfl (ex_assign rfl) ?_
        refine JL_q (wants_none rfl) rfl (ex_assign rfl) ?_
        refine JL_nil ?_
        refine N_then ?_
        refine J_seq ?_
        refine J_cut' (S' := Bool) (G' := Unit) (fun s23 _ => [(0, v0_), (2, .int .i64 p2), (7, .pointer (some ⟨b7, 0, none⟩)), (8, g12_3), (9, .int .i64 s11.2.2.2.2.2), (10, x22_0), (11, x22_2)]) (fun s23 _ => [.rd v0_ p0, .ow 23 (.slice (some ⟨b17, 0, none⟩) s11.1.length cap18) s11.1, .ow 2 g12_1 s11.2.1, .ow 23 g12_2 s11.2.2.1, .bx b7 117 [(.slice (some ⟨b17, 0, none⟩) s11.1.length cap18), g12_1, g12_2, .bool s23], .ow 9 g12_3 s11.2.2.2.2.1, .od 23 x22_0 r20.1 x22_1, .od 23 x22_2 r20.2.1 x22_3]) ?_ (fun s23 g24 => ?_)
        · refine J_region ?_
          refine JL_q (wants_none rfl) rfl (ex_move rfl) ?_
          refine JL_q (wants_none rfl) rfl (ex_move rfl) ?_
          refine JL_q (wants_none rfl) rfl (ex_nilCheck rfl) ?_
          refine JL_q (wants_none rfl) rfl (ex_fieldAddr fi_117_3 rfl rfl) ?_
          refine JL_q (wants_none rfl) rfl (ex_load_bx 7 ti_4 rfl rfl rfl) ?_
          refine JL_q (wants_none rfl) rfl (ex_move rfl) ?_
          refine JL_cond (fun h25 => ?_) (fun h25 => ?_)
          · refine JL_q (wants_some rfl rfl rfl h25) rfl (ex_move rfl) ?_
            refine JL_q (wants_none rfl) rfl (ex_pick_true rfl h25 rfl) ?_
            refine JL_q (wants_none rfl) rfl (ex_nilCheck rfl) ?_
            refine JL_q (wants_none rfl) rfl (ex_fieldAddr fi_117_3 rfl rfl) ?_
            refine JL_sk (wants_none rfl) (sk_store_bx' 7 ti_4 rfl rfl (fun w hh => cv_bool) rfl rfl rfl rfl) ?_
            refine JL_nil ?_
            exact N_meet' () ⟨rfl, rfl, rfl, rfl, rfl, rfl, rfl, trivial⟩ [3, 4, 5, 6, 7, 8, 0, 1] rfl rfl
          · refine JL_passed rfl rfl rfl h25 ?_
            refine JL_q (wants_none rfl) rfl (ex_pick_false rfl h25 rfl) ?_
            refine JL_q (wants_none rfl) rfl (ex_nilCheck rfl) ?_
            refine JL_q (wants_none rfl) rfl (ex_fieldAddr fi_117_3 rfl rfl) ?_
            refine JL_sk (wants_none rfl) (sk_store_bx' 7 ti_4 rfl rfl (fun w hh => cv_bool) rfl rfl rfl rfl) ?_
            refine JL_nil ?_
            exact N_meet' () ⟨rfl, rfl, rfl, rfl, rfl, rfl, rfl, trivial⟩ [3, 4, 5, 6, 7, 8, 0, 1] rfl rfl
        · refine N_then ?_
          refine J_seq ?_
          refine J_region ?_
          refine JL_q (wants_none rfl) rfl (ex_assign rfl) ?_
          refine JL_nil ?_
          refine N_then ?_
          refine J_loop' (S := (List (List Int)) × (List Int) × (List (List Int)) × (List ByteArray) × Int) (G := Value × Value × Value × Value) (F_spec_l10Find_L2 s11 r20) (fun s26 g27 => [(0, v0_), (2, .int .i64 p2), (7, .pointer (some ⟨b7, 0, none⟩)), (8, g27.2.2.2), (9, .int .i64 s11.2.2.2.2.2), (10, x22_0), (11, x22_2), (13, .int .i64 s26.2.2.2.2)]) (fun s26 g27 => [.rd v0_ p0, .ow 23 g27.1 s26.1, .ow 2 g27.2.1 s26.2.1, .ow 23 g27.2.2.1 s26.2.2.1, .bx b7 117 [g27.1, g27.2.1, g27.2.2.1, .bool s23], .ow 9 g27.2.2.2 s26.2.2.2.1, .od 23 x22_0 r20.1 x22_1, .od 23 x22_2 r20.2.1 x22_3]) (s11.1, s11.2.1, s11.2.2.1, s11.2.2.2.2.1, 0) ((.slice (some ⟨b17, 0, none⟩) s11.1.length cap18), g12_1, g12_2, g12_3) ⟨rfl, rfl, rfl, rfl, rfl, rfl, rfl, rfl, trivial⟩ [0, 1, 2, 3, 4, 5, 6, 7] rfl rfl (fun s26 g27 => ?_) (fun s26 g27 => ?_)
          · obtain ⟨g27_0, g27_1, g27_2, g27_3⟩ := g27
            unfold F_spec_l10Find_L2
            refine J_seq ?_
            refine J_seq ?_
            refine J_region ?_
            refine JL_q (wants_none rfl) rfl (ex_move rfl) ?_
            refine JL_q (wants_none rfl) rfl (ex_move rfl) ?_
            refine JL_q (wants_none rfl) rfl (ex_od 6 rfl (ex_len_ow 6 Try.underlying33 rfl rfl)) ?_
            refine JL_q (wants_none rfl) rfl (ex_lss rfl rfl) ?_
            refine JL_nil ?_
            refine N_then ?_
            refine J_if rfl (fun h28 => ?_) (fun h28 => ?_)
            · refine J_skip ?_
              refine N_then ?_
              refine J_seq ?_
              refine J_block ?_
              refine J_seq ?_
              refine J_region ?_
              refine JL_q (wants_none rfl) rfl (ex_move rfl) ?_
              refine JL_q (wants_none rfl) rfl (ex_move rfl) ?_
              refine JL_q (wants_none rfl) rfl (ex_move rfl) ?_
              refine JL_bnd fun y29 hy30 => ?_
              refine JL_od_open (v := x22_0) 6 rfl hy30 ?_; rintro b31 cap32 rfl
              refine JL_q (wants_none rfl) rfl (ex_od 6 rfl (ex_index_ow 6 Try.underlying33 ti_23 rfl rfl rfl hy30)) ?_
              refine JL_st (wants_none rfl) rfl (st_od 6 rfl (st_load_ow_o 6 (opens_sl _) ti_23 rfl rfl hy30) (fun _ => rfl)) (fun v33 => ?_)
              refine JL_bnd fun r34 hr35 => ?_
              refine JL_call (wants_none rfl) rfl Try.call102 rfl (Ca_of0 fun w hh => c_spec_l10Key _ w (fun _ hk => hk.elim) _ _ (hh.rd0 0 rfl) _ hr35) (fun _ => ?_)
              refine JL_inline (wants_none rfl) rfl Try.call104 rfl Try.func104 rfl Try.ntmps104 rfl rfl (fun K_ hK36 => ?_)
              refine J_seq ?_
              refine J_region ?_
              refine JL_q (wants_none rfl) rfl (ex_assign rfl) ?_
              refine JL_q (wants_none rfl) rfl (ex_assign rfl) ?_
              refine JL_nil ?_
              refine N_then ?_
              refine J_seq ?_
              refine J_region ?_
              refine JL_q (wants_none rfl) rfl (ex_assign rfl) ?_
              refine JL_nil ?_
              refine N_then ?_
              refine J_seq ?_
              refine J_region ?_
              refine JL_q (wants_none rfl) rfl (ex_move rfl) ?_
              refine JL_q (wants_none rfl) rfl (ex_len_ow 6 Try.underlying141 rfl rfl) ?_
              refine JL_q (wants_none rfl) rfl (ex_assign rfl) ?_
              refine JL_nil ?_
              refine N_then ?_
              refine J_seq ?_
              refine J_loop' (S := Int × Int) (G := Unit) (F_spec_l10Find_L3 s26 r34) (fun s37 _ => [(0, g27_3), (1, .string r34), (6, .int .i64 s37.1), (7, .int .i64 s37.2)]) (fun s37 _ => [.ow 9 g27_3 s26.2.2.2.1, .rd v0_ p0, .ow 23 g27_0 s26.1, .ow 2 g27_1 s26.2.1, .ow 23 g27_2 s26.2.2.1, .bx b7 117 [g27_0, g27_1, g27_2, .bool s23], .od 23 (.slice (some ⟨b31, 0, none⟩) r20.1.length cap32) r20.1 x22_1, .od 23 x22_2 r20.2.1 x22_3]) (0, (s26.2.2.2.1.length : Int)) () ⟨rfl, rfl, rfl, rfl, trivial⟩ [6, 1, 2, 3, 4, 5, 7, 8] rfl rfl (fun s37 g38 => ?_) (fun s37 g38 => ?_)
              · unfold F_spec_l10Find_L3
                refine J_seq ?_
                refine J_seq ?_
                refine J_region ?_
                refine JL_q (wants_none rfl) rfl (ex_move rfl) ?_
                refine JL_q (wants_none rfl) rfl (ex_move rfl) ?_
                refine JL_q (wants_none rfl) rfl (ex_lss rfl rfl) ?_
                refine JL_nil ?_
                refine N_then ?_
                refine J_if rfl (fun h39 => ?_) (fun h39 => ?_)
                · refine J_skip ?_
                  refine N_then ?_
                  refine J_block ?_
                  refine J_seq ?_
                  refine J_region ?_
                  refine JL_q (wants_none rfl) rfl (ex_move rfl) ?_
                  refine JL_q (wants_none rfl) rfl (ex_move rfl) ?_
                  refine JL_q (wants_none rfl) rfl (ex_add rfl rfl) ?_
                  refine JL_q (wants_none rfl) rfl (ex_quo rfl rfl (by decide)) ?_
                  refine JL_q (wants_none rfl) rfl (ex_assign rfl) ?_
                  refine JL_nil ?_
                  refine N_then ?_
                  refine J_seq ?_
                  refine J_region ?_
                  refine JL_q (wants_none rfl) rfl (ex_move rfl) ?_
                  refine JL_q (wants_none rfl) rfl (ex_move rfl) ?_
                  refine JL_bnd fun y40 hy41 => ?_
                  refine JL_ow_open (v := g27_3) 0 rfl hy41 ?_; rintro b42 cap43 rfl
                  refine JL_q (wants_none rfl) rfl (ex_index_ow 0 Try.underlying141 ti_9 rfl rfl rfl hy41) ?_
                  refine JL_st (wants_none rfl) rfl (st_load_ow_o 0 (opens_str _) ti_9 rfl rfl hy41) (fun _ => ?_)
                  refine JL_q (wants_none rfl) rfl (ex_move rfl) ?_
                  refine JL_q (wants_none rfl) rfl (ex_lss_str rfl rfl) ?_
                  refine JL_nil ?_
                  refine N_then ?_
                  refine J_if rfl (fun h45 => ?_) (fun h45 => ?_)
                  · refine J_region ?_
                    refine JL_q (wants_none rfl) rfl (ex_move rfl) ?_
                    refine JL_q (wants_none rfl) rfl (ex_add rfl rfl) ?_
                    refine JL_q (wants_none rfl) rfl (ex_assign rfl) ?_
                    refine JL_nil ?_
                    refine N_block ?_
                    exact N_next' () ⟨rfl, rfl, rfl, rfl, trivial⟩ [0, 1, 2, 3, 4, 5, 6, 7] rfl rfl
                  · refine J_region ?_
                    refine JL_q (wants_none rfl) rfl (ex_move rfl) ?_
                    refine JL_q (wants_none rfl) rfl (ex_assign rfl) ?_
                    refine JL_nil ?_
                    refine N_block ?_
                    exact N_next' () ⟨rfl, rfl, rfl, rfl, trivial⟩ [0, 1, 2, 3, 4, 5, 6, 7] rfl rfl
                · refine J_exit ?_
                  refine N_then_exit ?_
                  exact N_break' () ⟨rfl, rfl, rfl, rfl, trivial⟩ [0, 1, 2, 3, 4, 5, 6, 7] rfl rfl
              · refine N_then ?_
                refine J_seq ?_
                refine J_cut' (S' := Unit) (G' := Unit) (fun _ _ => [(0, g27_3), (1, .string r34), (6, .int .i64 s37.1)]) (fun _ _ => [.ow 9 g27_3 s26.2.2.2.1, .rd v0_ p0, .ow 23 g27_0 s26.1, .ow 2 g27_1 s26.2.1, .ow 23 g27_2 s26.2.2.1, .bx b7 117 [g27_0, g27_1, g27_2, .bool s23], .od 23 (.slice (some ⟨b31, 0, none⟩) r20.1.length cap32) r20.1 x22_1, .od 23 x22_2 r20.2.1 x22_3]) ?_ (fun s46 g47 => ?_)
                · refine J_seq ?_
                  refine J_region ?_
                  refine JL_q (wants_none rfl) rfl (ex_move rfl) ?_
                  refine JL_q (wants_none rfl) rfl (ex_move rfl) ?_
                  refine JL_q (wants_none rfl) rfl (ex_len_ow 0 Try.underlying141 rfl rfl) ?_
                  refine JL_q (wants_none rfl) rfl (ex_lss rfl rfl) ?_
                  refine JL_q (wants_none rfl) rfl (ex_move rfl) ?_
                  refine JL_cond (fun h48 => ?_) (fun h48 => ?_)
                  · refine JL_q (wants_some rfl rfl rfl h48) rfl (ex_move rfl) ?_
                    refine JL_q (wants_some rfl rfl rfl h48) rfl (ex_move rfl) ?_
                    refine JL_bnd fun y49 hy50 => ?_
                    refine JL_ow_open (v := g27_3) 0 rfl hy50 ?_; rintro b51 cap52 rfl
                    refine JL_q (wants_some rfl rfl rfl h48) rfl (ex_index_ow 0 Try.underlying141 ti_9 rfl rfl rfl hy50) ?_
                    refine JL_st (wants_some rfl rfl rfl h48) rfl (st_load_ow_o 0 (opens_str _) ti_9 rfl rfl hy50) (fun _ => ?_)
                    refine JL_q (wants_some rfl rfl rfl h48) rfl (ex_move rfl) ?_
                    refine JL_q (wants_some rfl rfl rfl h48) rfl (ex_eql_str rfl rfl) ?_
                    refine JL_q (wants_none rfl) rfl (ex_pick_true rfl h48 rfl) ?_
                    refine JL_nil ?_
                    refine N_then ?_
                    refine J_if rfl (fun h54 => ?_) (fun h54 => ?_)
                    · refine J_seq ?_
                      refine J_region ?_
                      refine JL_q (wants_none rfl) rfl (ex_move rfl) ?_
                      refine JL_q (wants_none rfl) rfl (ex_assign rfl) ?_
                      refine JL_q (wants_none rfl) rfl (ex_assign rfl) ?_
                      refine JL_nil ?_
                      refine N_then ?_
                      refine J_ret ?_
                      refine N_mid_reti ?_
                      refine N_then_ret ?_
                      refine N_inl2 hK36 rfl (rv_tmp rfl) (rv_tmp rfl) ?_
                      refine JL_q (wants_none rfl) rfl (ex_move rfl) ?_
                      refine JL_q (wants_none rfl) rfl (ex_extract rfl rfl) ?_
                      refine JL_q (wants_none rfl) rfl (ex_extract rfl rfl) ?_
                      refine JL_q (wants_none rfl) rfl (ex_assign rfl) ?_
                      refine JL_q (wants_none rfl) rfl (ex_assign rfl) ?_
                      refine JL_nil ?_
                      refine N_then ?_
                      refine J_seq ?_
                      refine J_region ?_
                      refine JL_q (wants_none rfl) rfl (ex_move rfl) ?_
                      refine JL_q (wants_none rfl) rfl (ex_assign rfl) ?_
                      refine JL_nil ?_
                      refine N_then ?_
                      refine J_seq ?_
                      refine J_seq ?_
                      refine J_region ?_
                      refine JL_q (wants_none rfl) rfl (ex_move rfl) ?_
                      refine JL_q (wants_none rfl) rfl (ex_not rfl) ?_
                      refine JL_nil ?_
                      refine N_then ?_
                      refine J_if_true rfl rfl ?_
                      refine J_exit ?_
                      refine N_then_exit ?_
                      refine N_block_exit ?_
                      refine N_then ?_
                      refine J_region ?_
                      refine JL_q (wants_none rfl) rfl (ex_move rfl) ?_
                      refine JL_q (wants_none rfl) rfl (ex_add rfl rfl) ?_
                      refine JL_q (wants_none rfl) rfl (ex_assign rfl) ?_
                      refine JL_nil ?_
                      exact N_next' (g27_0, g27_1, g27_2, (.slice (some ⟨b51, 0, none⟩) s26.2.2.2.1.length cap52)) ⟨rfl, rfl, rfl, rfl, rfl, rfl, rfl, rfl, trivial⟩ [1, 2, 3, 4, 5, 0, 6, 7] rfl rfl
                    · refine J_skip ?_
                      exact N_meet' () ⟨rfl, rfl, rfl, trivial⟩ [0, 1, 2, 3, 4, 5, 6, 7] rfl rfl
                  · refine JL_passed rfl rfl rfl h48 ?_
                    refine JL_passed rfl rfl rfl h48 ?_
                    refine JL_passed rfl rfl rfl h48 ?_
                    refine JL_passed rfl rfl rfl h48 ?_
                    refine JL_passed rfl rfl rfl h48 ?_
                    refine JL_passed rfl rfl rfl h48 ?_
                    refine JL_q (wants_none rfl) rfl (ex_pick_false rfl h48 rfl) ?_
                    refine JL_nil ?_
                    refine N_then ?_
                    refine J_if_false rfl rfl ?_
                    refine J_skip ?_
                    exact N_meet' () ⟨rfl, rfl, rfl, trivial⟩ [0, 1, 2, 3, 4, 5, 6, 7] rfl rfl
                · refine N_then ?_
                  refine J_seq ?_
                  refine J_region ?_
                  refine JL_q (wants_none rfl) rfl (ex_move rfl) ?_
                  refine JL_st (wants_none rfl) rfl (st_buildSlice (vs := [.string (⟨#[]⟩ : ByteArray)]) ([(⟨#[]⟩ : ByteArray)] : List ByteArray) Try.underlying141 ti_9 zi_9 rfl rfl rfl (fun w hh => ⟨(Rd.mk_str _ _ _), trivial⟩)) (fun b55 => ?_)
                  refine JL_bnd fun z56 hz57 => ?_
                  refine JL_st (wants_none rfl) rfl (st_append 1 Try.underlying141 ti_9 zi_9 rfl bi_9 rfl rfl rfl rfl (fun w hh => hh.src_ow 0 rfl) hz57) (fun v58 => ?_)
                  refine JL_q (wants_none rfl) rfl (ex_assign rfl) ?_
                  refine JL_nil ?_
                  refine N_then ?_
                  refine J_seq ?_
                  refine J_draw [1] (by kernel_rfl) ?_
                  refine JP_take (i := 0) [0, 2, 3, 4, 5, 6, 7, 8] [1] rfl (by kernel_rfl) (by kernel_rfl) (by kernel_rfl) rfl rfl (wants_none rfl) rfl (ex_move rfl) ?_
                  refine JP_take (i := 1) [0, 2, 3, 4, 5, 6, 7, 8] [1] rfl (by kernel_rfl) (by kernel_rfl) (by kernel_rfl) rfl rfl (wants_none rfl) rfl (ex_move rfl) ?_
                  refine JP_take (i := 2) [0, 2, 3, 4, 5, 6, 7, 8] [1] rfl (by kernel_rfl) (by kernel_rfl) (by kernel_rfl) rfl rfl (wants_none rfl) rfl (ex_add rfl rfl) ?_
                  refine JP_take (i := 4) [0, 2, 3, 4, 5, 6, 7, 8] [1] rfl (by kernel_rfl) (by kernel_rfl) (by kernel_rfl) rfl rfl (wants_none rfl) rfl (ex_move rfl) ?_
                  refine JP_take (i := 5) [0, 2, 3, 4, 5, 6, 7, 8] [1] rfl (by kernel_rfl) (by kernel_rfl) (by kernel_rfl) rfl rfl (wants_none rfl) rfl (ex_move rfl) ?_
                  refine JP_go [0, 2, 3, 4, 5, 6, 7, 8] [1] rfl rfl rfl (fun w60 h1_61 hp59 => ?_)
                  refine JD_bnd fun z62 hz63 => ?_
                  refine JD_bnd fun z64 hz65 => ?_
                  refine JD_two (i := 3) (j := 6) (by kernel_rfl) ?_ ?_
                  · refine JO_q rfl (wants_none rfl) rfl (ex_slice_ow 1 Try.underlying141 ti_9 rfl rfl rfl rfl hz63) ?_
                    refine JD_one (i := 6) (by kernel_rfl) ?_
                    refine JO_q rfl (wants_none rfl) rfl (ex_slice_ow 1 Try.underlying141 ti_9 rfl rfl rfl rfl hz65) ?_
                    refine JD_one (i := 7) (by kernel_rfl) ?_
                    refine JO_st rfl (wants_none rfl) rfl (st_copy_at 1 rfl Try.underlying141 ti_9 rfl rfl rfl hz63 (fun w hh => hh.src_own 1 rfl hz65)) (sub_ow 0 rfl) (fun _ => ?_)
                    refine JD_done (by kernel_rfl) ?_
                    refine N_then ?_
                    refine J_seq ?_
                    refine J_region ?_
                    refine JL_q (wants_none rfl) rfl (ex_move rfl) ?_
                    refine JL_q (wants_none rfl) rfl (ex_move rfl) ?_
                    refine JL_q (wants_none rfl) rfl (ex_move rfl) ?_
                    refine JL_bnd fun y66 hy67 => ?_
                    refine JL_ow_open (v := v58) 1 rfl hy67 ?_; rintro b68 cap69 rfl
                    refine JL_q (wants_none rfl) rfl (ex_index_ow 1 Try.underlying141 ti_9 rfl rfl rfl hy67) ?_
                    refine JL_sk (wants_none rfl) (sk_store_ow 1 ti_9 rfl rfl rfl hy67 (fun w hh => (Rd.mk_str _ _ _))) ?_
                    refine JL_nil ?_
                    refine N_then ?_
                    refine J_seq ?_
                    refine J_region ?_
                    refine JL_q (wants_none rfl) rfl (ex_move rfl) ?_
                    refine JL_q (wants_none rfl) rfl (ex_assign rfl) ?_
                    refine JL_q (wants_none rfl) rfl (ex_assign rfl) ?_
                    refine JL_nil ?_
                    refine N_then ?_
                    refine J_ret ?_
                    refine N_inl2 hK36 rfl (rv_tmp rfl) (rv_tmp rfl) ?_
                    refine JL_q (wants_none rfl) rfl (ex_move rfl) ?_
                    refine JL_q (wants_none rfl) rfl (ex_extract rfl rfl) ?_
                    refine JL_q (wants_none rfl) rfl (ex_extract rfl rfl) ?_
                    refine JL_q (wants_none rfl) rfl (ex_assign rfl) ?_
                    refine JL_q (wants_none rfl) rfl (ex_assign rfl) ?_
                    refine JL_nil ?_
                    refine N_then ?_
                    refine J_seq ?_
                    refine J_region ?_
                    refine JL_q (wants_none rfl) rfl (ex_move rfl) ?_
                    refine JL_q (wants_none rfl) rfl (ex_assign rfl) ?_
                    refine JL_nil ?_
                    refine N_then ?_
                    refine J_seq ?_
                    refine J_seq ?_
                    refine J_region ?_
                    refine JL_q (wants_none rfl) rfl (ex_move rfl) ?_
                    refine JL_q (wants_none rfl) rfl (ex_not rfl) ?_
                    refine JL_nil ?_
                    refine N_then ?_
                    refine J_if_false rfl rfl ?_
                    refine J_skip ?_
                    refine N_then ?_
                    refine J_seq ?_
                    refine J_cut' (S' := (List (List Int))) (G' := Value) (fun s70 g71 => [(0, v0_), (2, .int .i64 p2), (7, .pointer (some ⟨b7, 0, none⟩)), (8, (.slice (some ⟨b68, 0, none⟩) (cpyAt z56 (w64 (s37.1 + 1)) (z56.length : Int) z64).length cap69)), (9, .int .i64 s11.2.2.2.2.2), (10, (.slice (some ⟨b31, 0, none⟩) r20.1.length cap32)), (11, x22_2), (13, .int .i64 s26.2.2.2.2)]) (fun s70 g71 => [.rd v0_ p0, .ow 23 g71 s70, .ow 2 g27_1 s26.2.1, .ow 23 g27_2 s26.2.2.1, .bx b7 117 [g71, g27_1, g27_2, .bool s23], .ow 9 (.slice (some ⟨b68, 0, none⟩) (cpyAt z56 (w64 (s37.1 + 1)) (z56.length : Int) z64).length cap69) ((cpyAt z56 (w64 (s37.1 + 1)) (z56.length : Int) z64).set s37.1.toNat r34), .od 23 (.slice (some ⟨b31, 0, none⟩) r20.1.length cap32) r20.1 x22_1, .od 23 x22_2 r20.2.1 x22_3]) ?_ (fun s70 g71 => ?_)
                    · refine J_draw [3, 6] (by kernel_rfl) ?_
                      refine JP_take (i := 0) [0, 1, 2, 4, 5, 7, 8] [3, 6] rfl (by kernel_rfl) (by kernel_rfl) (by kernel_rfl) rfl rfl (wants_none rfl) rfl (ex_move rfl) ?_
                      refine JP_take (i := 1) [0, 1, 2, 4, 5, 7, 8] [3, 6] rfl (by kernel_rfl) (by kernel_rfl) (by kernel_rfl) rfl rfl (wants_none rfl) rfl (ex_move rfl) ?_
                      refine JP_take (i := 2) [0, 1, 2, 4, 5, 7, 8] [3, 6] rfl (by kernel_rfl) (by kernel_rfl) (by kernel_rfl) rfl rfl (wants_none rfl) rfl (ex_nilCheck rfl) ?_
                      refine JP_take (i := 3) [0, 1, 2, 4, 5, 7, 8] [3, 6] rfl (by kernel_rfl) (by kernel_rfl) (by kernel_rfl) rfl rfl (wants_none rfl) rfl (ex_fieldAddr fi_117_0 rfl rfl) ?_
                      refine JP_take (i := 5) [0, 1, 2, 4, 5, 7, 8] [3, 6] rfl (by kernel_rfl) (by kernel_rfl) (by kernel_rfl) rfl rfl (wants_none rfl) rfl (ex_move rfl) ?_
                      refine JP_take (i := 6) [0, 1, 2, 4, 5, 7, 8] [3, 6] rfl (by kernel_rfl) (by kernel_rfl) (by kernel_rfl) rfl rfl (wants_none rfl) rfl (ex_move rfl) ?_
                      refine JP_bnd fun y72 hy73 => ?_
                      refine JP_take (i := 7) [0, 1, 2, 4, 5, 7, 8] [3, 6] rfl (by kernel_rfl) (by kernel_rfl) (by kernel_rfl) rfl rfl (wants_none rfl) rfl (ex_od 5 rfl (ex_index_ow 5 Try.underlying33 ti_23 rfl rfl rfl hy73)) ?_
                      refine JP_go [0, 1, 2, 4, 5, 7, 8] [3, 6] rfl rfl rfl (fun w75 h1_76 hp74 => ?_)
                      refine JD_two (i := 4) (j := 8) (by kernel_rfl) ?_ ?_
                      · refine JO_q rfl (wants_none rfl) rfl (ex_load_bx 6 ti_33 rfl rfl rfl) ?_
                        refine JD_one (i := 8) (by kernel_rfl) ?_
                        refine JO_st rfl (wants_none rfl) rfl (st_od 7 rfl (st_load_ow_o 7 (opens_sl _) ti_23 rfl rfl hy73) (fun _ => rfl)) (fun _ hk => nomatch hk) (fun v77 => ?_)
                        refine JD_one (i := 9) (by kernel_rfl) ?_
                        refine JO_st rfl (wants_none rfl) rfl (st_buildSlice (vs := [v77]) ([y72] : List (List Int)) Try.underlying33 ti_23 zi_23 rfl rfl rfl (fun w hh => ⟨(hh.rd 0 rfl), trivial⟩)) (fun _ hk => nomatch hk) (fun b78 => ?_)
                        refine JD_bnd fun z79 hz80 => ?_
                        refine JD_one (i := 10) (by kernel_rfl) ?_
                        refine JO_st rfl (wants_none rfl) rfl (st_append 5 Try.underlying33 ti_23 zi_23 rfl bi_23 rfl rfl rfl rfl (fun w hh => hh.src_ow 0 rfl) hz80) (sub_ow 0 rfl) (fun v81 => ?_)
                        refine JD_take (i := 11) hp74 rfl (by kernel_rfl) (by kernel_rfl) (by kernel_rfl) (wants_none rfl) rfl (ex_nilCheck rfl) ?_
                        refine JD_take (i := 12) hp74 rfl (by kernel_rfl) (by kernel_rfl) (by kernel_rfl) (wants_none rfl) rfl (ex_fieldAddr fi_117_0 rfl rfl) ?_
                        refine JD_one (i := 13) (by kernel_rfl) ?_
                        refine JO_sk rfl (wants_none rfl) (sk_store_bx' 8 ti_33 rfl rfl (fun w hh => (hh.cv_ow 5 rfl)) rfl rfl rfl rfl) (sub_bx 1 rfl) ?_
                        refine JD_done (by kernel_rfl) ?_
                        exact N_meet' v81 ⟨rfl, rfl, rfl, rfl, rfl, rfl, rfl, rfl, trivial⟩ [4, 5, 6, 7, 8, 3, 9, 10] rfl rfl
                      · refine JO_st rfl (wants_none rfl) rfl (st_od 7 rfl (st_load_ow_o 7 (opens_sl _) ti_23 rfl rfl hy73) (fun _ => rfl)) (fun _ hk => nomatch hk) (fun v82 => ?_)
                        refine JD_two (i := 4) (j := 9) (by kernel_rfl) ?_ ?_
                        · refine JO_q rfl (wants_none rfl) rfl (ex_load_bx 7 ti_33 rfl rfl rfl) ?_
                          refine JD_one (i := 9) (by kernel_rfl) ?_
                          refine JO_st rfl (wants_none rfl) rfl (st_buildSlice (vs := [v82]) ([y72] : List (List Int)) Try.underlying33 ti_23 zi_23 rfl rfl rfl (fun w hh => ⟨(hh.rd 0 rfl), trivial⟩)) (fun _ hk => nomatch hk) (fun b83 => ?_)
                          refine JD_bnd fun z84 hz85 => ?_
                          refine JD_one (i := 10) (by kernel_rfl) ?_
                          refine JO_st rfl (wants_none rfl) rfl (st_append 5 Try.underlying33 ti_23 zi_23 rfl bi_23 rfl rfl rfl rfl (fun w hh => hh.src_ow 0 rfl) hz85) (sub_ow 0 rfl) (fun v86 => ?_)
                          refine JD_take (i := 11) hp74 rfl (by kernel_rfl) (by kernel_rfl) (by kernel_rfl) (wants_none rfl) rfl (ex_nilCheck rfl) ?_
                          refine JD_take (i := 12) hp74 rfl (by kernel_rfl) (by kernel_rfl) (by kernel_rfl) (wants_none rfl) rfl (ex_fieldAddr fi_117_0 rfl rfl) ?_
                          refine JD_one (i := 13) (by kernel_rfl) ?_
                          refine JO_sk rfl (wants_none rfl) (sk_store_bx' 8 ti_33 rfl rfl (fun w hh => (hh.cv_ow 5 rfl)) rfl rfl rfl rfl) (sub_bx 1 rfl) ?_
                          refine JD_done (by kernel_rfl) ?_
                          exact N_meet' v86 ⟨rfl, rfl, rfl, rfl, rfl, rfl, rfl, rfl, trivial⟩ [4, 5, 6, 7, 8, 3, 9, 10] rfl rfl
                        · refine JO_st rfl (wants_none rfl) rfl (st_buildSlice (vs := [v82]) ([y72] : List (List Int)) Try.underlying33 ti_23 zi_23 rfl rfl rfl (fun w hh => ⟨(hh.rd 0 rfl), trivial⟩)) (fun _ hk => nomatch hk) (fun b87 => ?_)
                          refine JD_one (i := 4) (by kernel_rfl) ?_
                          refine JO_q rfl (wants_none rfl) rfl (ex_load_bx 8 ti_33 rfl rfl rfl) ?_
                          refine JD_bnd fun z88 hz89 => ?_
                          refine JD_one (i := 10) (by kernel_rfl) ?_
                          refine JO_st rfl (wants_none rfl) rfl (st_append 5 Try.underlying33 ti_23 zi_23 rfl bi_23 rfl rfl rfl rfl (fun w hh => hh.src_ow 0 rfl) hz89) (sub_ow 0 rfl) (fun v90 => ?_)
                          refine JD_take (i := 11) hp74 rfl (by kernel_rfl) (by kernel_rfl) (by kernel_rfl) (wants_none rfl) rfl (ex_nilCheck rfl) ?_
                          refine JD_take (i := 12) hp74 rfl (by kernel_rfl) (by kernel_rfl) (by kernel_rfl) (wants_none rfl) rfl (ex_fieldAddr fi_117_0 rfl rfl) ?_
                          refine JD_one (i := 13) (by kernel_rfl) ?_
                          refine JO_sk rfl (wants_none rfl) (sk_store_bx' 8 ti_33 rfl rfl (fun w hh => (hh.cv_ow 5 rfl)) rfl rfl rfl rfl) (sub_bx 1 rfl) ?_
                          refine JD_done (by kernel_rfl) ?_
                          exact N_meet' v90 ⟨rfl, rfl, rfl, rfl, rfl, rfl, rfl, rfl, trivial⟩ [4, 5, 6, 7, 8, 3, 9, 10] rfl rfl
                    · refine N_then ?_
                      refine J_seq ?_
                      refine J_region ?_
                      refine JL_q (wants_none rfl) rfl (ex_move rfl) ?_
                      refine JL_q (wants_none rfl) rfl (ex_move rfl) ?_
                      refine JL_q (wants_none rfl) rfl (ex_nilCheck rfl) ?_
                      refine JL_q (wants_none rfl) rfl (ex_fieldAddr fi_117_1 rfl rfl) ?_
                      refine JL_q (wants_none rfl) rfl (ex_load_bx 4 ti_23 rfl rfl rfl) ?_
                      refine JL_q (wants_none rfl) rfl (ex_move rfl) ?_
                      refine JL_st (wants_none rfl) rfl (st_buildSlice (vs := [.int .i64 s11.2.2.2.2.2]) ([s11.2.2.2.2.2] : List Int) Try.underlying23 ti_2 zi_2 rfl rfl rfl (fun w hh => ⟨(Rd.mk_int _ _ _), trivial⟩)) (fun b91 => ?_)
                      refine JL_bnd fun z92 hz93 => ?_
                      refine JL_st (wants_none rfl) rfl (st_append 3 Try.underlying23 ti_2 zi_2 rfl bi_2 rfl rfl rfl rfl (fun w hh => hh.src_ow 0 rfl) hz93) (fun v94 => ?_)
                      refine JL_q (wants_none rfl) rfl (ex_nilCheck rfl) ?_
                      refine JL_q (wants_none rfl) rfl (ex_fieldAddr fi_117_1 rfl rfl) ?_
                      refine JL_sk (wants_none rfl) (sk_store_bx' 5 ti_23 rfl rfl (fun w hh => (hh.cv_ow 3 rfl)) rfl rfl rfl rfl) ?_
                      refine JL_nil ?_
                      refine N_then ?_
                      refine J_seq ?_
                      refine J_cut' (S' := (List (List Int))) (G' := Value) (fun s95 g96 => [(0, v0_), (2, .int .i64 p2), (7, .pointer (some ⟨b7, 0, none⟩)), (8, (.slice (some ⟨b68, 0, none⟩) (cpyAt z56 (w64 (s37.1 + 1)) (z56.length : Int) z64).length cap69)), (9, .int .i64 s11.2.2.2.2.2), (10, (.slice (some ⟨b31, 0, none⟩) r20.1.length cap32)), (11, x22_2), (13, .int .i64 s26.2.2.2.2)]) (fun s95 g96 => [.rd v0_ p0, .ow 23 g71 s70, .ow 2 v94 z92, .ow 23 g96 s95, .bx b7 117 [g71, v94, g96, .bool s23], .ow 9 (.slice (some ⟨b68, 0, none⟩) (cpyAt z56 (w64 (s37.1 + 1)) (z56.length : Int) z64).length cap69) ((cpyAt z56 (w64 (s37.1 + 1)) (z56.length : Int) z64).set s37.1.toNat r34), .od 23 (.slice (some ⟨b31, 0, none⟩) r20.1.length cap32) r20.1 x22_1, .od 23 x22_2 r20.2.1 x22_3]) ?_ (fun s95 g96 => ?_)
                      · refine J_draw [4, 5, 8] (by kernel_rfl) ?_
                        refine JP_take (i := 0) [0, 1, 2, 3, 6, 7] [4, 5, 8] rfl (by kernel_rfl) (by kernel_rfl) (by kernel_rfl) rfl rfl (wants_none rfl) rfl (ex_move rfl) ?_
                        refine JP_take (i := 1) [0, 1, 2, 3, 6, 7] [4, 5, 8] rfl (by kernel_rfl) (by kernel_rfl) (by kernel_rfl) rfl rfl (wants_none rfl) rfl (ex_move rfl) ?_
                        refine JP_take (i := 2) [0, 1, 2, 3, 6, 7] [4, 5, 8] rfl (by kernel_rfl) (by kernel_rfl) (by kernel_rfl) rfl rfl (wants_none rfl) rfl (ex_nilCheck rfl) ?_
                        refine JP_take (i := 3) [0, 1, 2, 3, 6, 7] [4, 5, 8] rfl (by kernel_rfl) (by kernel_rfl) (by kernel_rfl) rfl rfl (wants_none rfl) rfl (ex_fieldAddr fi_117_2 rfl rfl) ?_
                        refine JP_take (i := 5) [0, 1, 2, 3, 6, 7] [4, 5, 8] rfl (by kernel_rfl) (by kernel_rfl) (by kernel_rfl) rfl rfl (wants_none rfl) rfl (ex_move rfl) ?_
                        refine JP_take (i := 6) [0, 1, 2, 3, 6, 7] [4, 5, 8] rfl (by kernel_rfl) (by kernel_rfl) (by kernel_rfl) rfl rfl (wants_none rfl) rfl (ex_move rfl) ?_
                        refine JP_bnd fun y97 hy98 => ?_
                        refine JP_od_open (v := x22_2) 8 rfl hy98 ?_; rintro b99 cap100 rfl
                        refine JP_take (i := 7) [0, 1, 2, 3, 6, 7] [4, 5, 8] rfl (by kernel_rfl) (by kernel_rfl) (by kernel_rfl) rfl rfl (wants_none rfl) rfl (ex_index_own Try.underlying33 ti_23 rfl rfl hy98 (by first | rfl | simp)) ?_
                        refine JP_go [0, 1, 2, 3, 6, 7] [4, 5, 8] rfl rfl rfl (fun w102 h1_103 hp101 => ?_)
                        refine JD_two (i := 4) (j := 8) (by kernel_rfl) ?_ ?_
                        · refine JO_q rfl (wants_none rfl) rfl (ex_load_bx 5 ti_33 rfl rfl rfl) ?_
                          refine JD_one (i := 8) (by kernel_rfl) ?_
                          refine JO_st rfl (wants_none rfl) rfl (st_od 8 rfl (st_load_ow_o 8 (opens_sl _) ti_23 rfl rfl hy98) (fun _ => rfl)) (fun _ hk => nomatch hk) (fun v104 => ?_)
                          refine JD_one (i := 9) (by kernel_rfl) ?_
                          refine JO_st rfl (wants_none rfl) rfl (st_buildSlice (vs := [v104]) ([y97] : List (List Int)) Try.underlying33 ti_23 zi_23 rfl rfl rfl (fun w hh => ⟨(hh.rd 0 rfl), trivial⟩)) (fun _ hk => nomatch hk) (fun b105 => ?_)
                          refine JD_bnd fun z106 hz107 => ?_
                          refine JD_one (i := 10) (by kernel_rfl) ?_
                          refine JO_st rfl (wants_none rfl) rfl (st_append 6 Try.underlying33 ti_23 zi_23 rfl bi_23 rfl rfl rfl rfl (fun w hh => hh.src_ow 0 rfl) hz107) (sub_ow 0 rfl) (fun v108 => ?_)
                          refine JD_take (i := 11) hp101 rfl (by kernel_rfl) (by kernel_rfl) (by kernel_rfl) (wants_none rfl) rfl (ex_nilCheck rfl) ?_
                          refine JD_take (i := 12) hp101 rfl (by kernel_rfl) (by kernel_rfl) (by kernel_rfl) (wants_none rfl) rfl (ex_fieldAddr fi_117_2 rfl rfl) ?_
                          refine JD_one (i := 13) (by kernel_rfl) ?_
                          refine JO_sk rfl (wants_none rfl) (sk_store_bx' 7 ti_33 rfl rfl (fun w hh => (hh.cv_ow 6 rfl)) rfl rfl rfl rfl) (sub_bx 1 rfl) ?_
                          refine JD_done (by kernel_rfl) ?_
                          exact N_meet' v108 ⟨rfl, rfl, rfl, rfl, rfl, rfl, rfl, rfl, trivial⟩ [3, 4, 5, 6, 7, 8, 9, 10] rfl rfl
                        · refine JO_st rfl (wants_none rfl) rfl (st_od 8 rfl (st_load_ow_o 8 (opens_sl _) ti_23 rfl rfl hy98) (fun _ => rfl)) (fun _ hk => nomatch hk) (fun v109 => ?_)
                          refine JD_two (i := 4) (j := 9) (by kernel_rfl) ?_ ?_
                          · refine JO_q rfl (wants_none rfl) rfl (ex_load_bx 6 ti_33 rfl rfl rfl) ?_
                            refine JD_one (i := 9) (by kernel_rfl) ?_
                            refine JO_st rfl (wants_none rfl) rfl (st_buildSlice (vs := [v109]) ([y97] : List (List Int)) Try.underlying33 ti_23 zi_23 rfl rfl rfl (fun w hh => ⟨(hh.rd 0 rfl), trivial⟩)) (fun _ hk => nomatch hk) (fun b110 => ?_)
                            refine JD_bnd fun z111 hz112 => ?_
                            refine JD_one (i := 10) (by kernel_rfl) ?_
                            refine JO_st rfl (wants_none rfl) rfl (st_append 6 Try.underlying33 ti_23 zi_23 rfl bi_23 rfl rfl rfl rfl (fun w hh => hh.src_ow 0 rfl) hz112) (sub_ow 0 rfl) (fun v113 => ?_)
                            refine JD_take (i := 11) hp101 rfl (by kernel_rfl) (by kernel_rfl) (by kernel_rfl) (wants_none rfl) rfl (ex_nilCheck rfl) ?_
                            refine JD_take (i := 12) hp101 rfl (by kernel_rfl) (by kernel_rfl) (by kernel_rfl) (wants_none rfl) rfl (ex_fieldAddr fi_117_2 rfl rfl) ?_
                            refine JD_one (i := 13) (by kernel_rfl) ?_
                            refine JO_sk rfl (wants_none rfl) (sk_store_bx' 7 ti_33 rfl rfl (fun w hh => (hh.cv_ow 6 rfl)) rfl rfl rfl rfl) (sub_bx 1 rfl) ?_
                            refine JD_done (by kernel_rfl) ?_
                            exact N_meet' v113 ⟨rfl, rfl, rfl, rfl, rfl, rfl, rfl, rfl, trivial⟩ [3, 4, 5, 6, 7, 8, 9, 10] rfl rfl
                          · refine JO_st rfl (wants_none rfl) rfl (st_buildSlice (vs := [v109]) ([y97] : List (List Int)) Try.underlying33 ti_23 zi_23 rfl rfl rfl (fun w hh => ⟨(hh.rd 0 rfl), trivial⟩)) (fun _ hk => nomatch hk) (fun b114 => ?_)
                            refine JD_one (i := 4) (by kernel_rfl) ?_
                            refine JO_q rfl (wants_none rfl) rfl (ex_load_bx 7 ti_33 rfl rfl rfl) ?_
                            refine JD_bnd fun z115 hz116 => ?_
                            refine JD_one (i := 10) (by kernel_rfl) ?_
                            refine JO_st rfl (wants_none rfl) rfl (st_append 6 Try.underlying33 ti_23 zi_23 rfl bi_23 rfl rfl rfl rfl (fun w hh => hh.src_ow 0 rfl) hz116) (sub_ow 0 rfl) (fun v117 => ?_)
                            refine JD_take (i := 11) hp101 rfl (by kernel_rfl) (by kernel_rfl) (by kernel_rfl) (wants_none rfl) rfl (ex_nilCheck rfl) ?_
                            refine JD_take (i := 12) hp101 rfl (by kernel_rfl) (by kernel_rfl) (by kernel_rfl) (wants_none rfl) rfl (ex_fieldAddr fi_117_2 rfl rfl) ?_
                            refine JD_one (i := 13) (by kernel_rfl) ?_
                            refine JO_sk rfl (wants_none rfl) (sk_store_bx' 7 ti_33 rfl rfl (fun w hh => (hh.cv_ow 6 rfl)) rfl rfl rfl rfl) (sub_bx 1 rfl) ?_
                            refine JD_done (by kernel_rfl) ?_
                            exact N_meet' v117 ⟨rfl, rfl, rfl, rfl, rfl, rfl, rfl, rfl, trivial⟩ [3, 4, 5, 6, 7, 8, 9, 10] rfl rfl
                      · refine N_then ?_
                        refine J_seq ?_
                        refine J_region ?_
                        refine JL_q (wants_none rfl) rfl (ex_move rfl) ?_
                        refine JL_q (wants_none rfl) rfl (ex_nilCheck rfl) ?_
                        refine JL_q (wants_none rfl) rfl (ex_fieldAddr fi_117_0 rfl rfl) ?_
                        refine JL_q (wants_none rfl) rfl (ex_load_bx 4 ti_33 rfl rfl rfl) ?_
                        refine JL_q (wants_none rfl) rfl (ex_len_ow 1 Try.underlying33 rfl rfl) ?_
                        refine JL_q (wants_none rfl) rfl (ex_eql rfl rfl) ?_
                        refine JL_nil ?_
                        refine N_then ?_
                        refine J_if rfl (fun h118 => ?_) (fun h118 => ?_)
                        · refine J_seq ?_
                          refine J_region ?_
                          refine JL_q (wants_none rfl) rfl (ex_move rfl) ?_
                          refine JL_q (wants_none rfl) rfl (ex_nilCheck rfl) ?_
                          refine JL_q (wants_none rfl) rfl (ex_fieldAddr fi_117_3 rfl rfl) ?_
                          refine JL_sk (wants_none rfl) (sk_store_bx' 4 ti_4 rfl rfl (fun w hh => cv_bool) rfl rfl rfl rfl) ?_
                          refine JL_nil ?_
                          refine N_then ?_
                          refine J_seq ?_
                          refine J_region ?_
                          refine JL_q (wants_none rfl) rfl (ex_move rfl) ?_
                          refine JL_q (wants_none rfl) rfl (ex_assign rfl) ?_
                          refine JL_nil ?_
                          refine N_then ?_
                          refine J_ret ?_
                          refine N_block_ret ?_
                          refine N_then_ret ?_
                          refine N_round_ret ?_
                          refine N_block_ret ?_
                          refine N_then_ret ?_
                          refine N_round_ret ?_
                          refine N_then_ret ?_
                          exact N_ret1 rfl (rv_tmp rfl) (fun w hh => ⟨(g71, v94, g96, b7), rfl, hh.sel [1, 2, 3, 4] rfl⟩)
                        · refine J_skip ?_
                          refine N_block ?_
                          refine N_then ?_
                          refine J_region ?_
                          refine JL_q (wants_none rfl) rfl (ex_move rfl) ?_
                          refine JL_q (wants_none rfl) rfl (ex_add rfl rfl) ?_
                          refine JL_q (wants_none rfl) rfl (ex_assign rfl) ?_
                          refine JL_nil ?_
                          exact N_next' (g71, v94, g96, (.slice (some ⟨b68, 0, none⟩) (cpyAt z56 (w64 (s37.1 + 1)) (z56.length : Int) z64).length cap69)) ⟨rfl, rfl, rfl, rfl, rfl, rfl, rfl, rfl, trivial⟩ [0, 1, 2, 3, 4, 5, 6, 7] rfl rfl
                  · refine JO_q rfl (wants_none rfl) rfl (ex_slice_ow 1 Try.underlying141 ti_9 rfl rfl rfl rfl hz65) ?_
                    refine JD_one (i := 3) (by kernel_rfl) ?_
                    refine JO_q rfl (wants_none rfl) rfl (ex_slice_ow 1 Try.underlying141 ti_9 rfl rfl rfl rfl hz63) ?_
                    refine JD_one (i := 7) (by kernel_rfl) ?_
                    refine JO_st rfl (wants_none rfl) rfl (st_copy_at 1 rfl Try.underlying141 ti_9 rfl rfl rfl hz63 (fun w hh => hh.src_own 1 rfl hz65)) (sub_ow 0 rfl) (fun _ => ?_)
                    refine JD_done (by kernel_rfl) ?_
                    refine N_then ?_
                    refine J_seq ?_
                    refine J_region ?_
                    refine JL_q (wants_none rfl) rfl (ex_move rfl) ?_
                    refine JL_q (wants_none rfl) rfl (ex_move rfl) ?_
                    refine JL_q (wants_none rfl) rfl (ex_move rfl) ?_
                    refine JL_bnd fun y119 hy120 => ?_
                    refine JL_ow_open (v := v58) 1 rfl hy120 ?_; rintro b121 cap122 rfl
                    refine JL_q (wants_none rfl) rfl (ex_index_ow 1 Try.underlying141 ti_9 rfl rfl rfl hy120) ?_
                    refine JL_sk (wants_none rfl) (sk_store_ow 1 ti_9 rfl rfl rfl hy120 (fun w hh => (Rd.mk_str _ _ _))) ?_
                    refine JL_nil ?_
                    refine N_then ?_
                    refine J_seq ?_
                    refine J_region ?_
                    refine JL_q (wants_none rfl) rfl (ex_move rfl) ?_
                    refine JL_q (wants_none rfl) rfl (ex_assign rfl) ?_
                    refine JL_q (wants_none rfl) rfl (ex_assign rfl) ?_
                    refine JL_nil ?_
                    refine N_then ?_
                    refine J_ret ?_
                    refine N_inl2 hK36 rfl (rv_tmp rfl) (rv_tmp rfl) ?_
                    refine JL_q (wants_none rfl) rfl (ex_move rfl) ?_
                    refine JL_q (wants_none rfl) rfl (ex_extract rfl rfl) ?_
                    refine JL_q (wants_none rfl) rfl (ex_extract rfl rfl) ?_
                    refine JL_q (wants_none rfl) rfl (ex_assign rfl) ?_
                    refine JL_q (wants_none rfl) rfl (ex_assign rfl) ?_
                    refine JL_nil ?_
                    refine N_then ?_
                    refine J_seq ?_
                    refine J_region ?_
                    refine JL_q (wants_none rfl) rfl (ex_move rfl) ?_
                    refine JL_q (wants_none rfl) rfl (ex_assign rfl) ?_
                    refine JL_nil ?_
                    refine N_then ?_
                    refine J_seq ?_
                    refine J_seq ?_
                    refine J_region ?_
                    refine JL_q (wants_none rfl) rfl (ex_move rfl) ?_
                    refine JL_q (wants_none rfl) rfl (ex_not rfl) ?_
                    refine JL_nil ?_
                    refine N_then ?_
                    refine J_if_false rfl rfl ?_
                    refine J_skip ?_
                    refine N_then ?_
                    refine J_seq ?_
                    refine J_cut' (S' := (List (List Int))) (G' := Value) (fun s123 g124 => [(0, v0_), (2, .int .i64 p2), (7, .pointer (some ⟨b7, 0, none⟩)), (8, (.slice (some ⟨b121, 0, none⟩) (cpyAt z56 (w64 (s37.1 + 1)) (z56.length : Int) z64).length cap122)), (9, .int .i64 s11.2.2.2.2.2), (10, (.slice (some ⟨b31, 0, none⟩) r20.1.length cap32)), (11, x22_2), (13, .int .i64 s26.2.2.2.2)]) (fun s123 g124 => [.rd v0_ p0, .ow 23 g124 s123, .ow 2 g27_1 s26.2.1, .ow 23 g27_2 s26.2.2.1, .bx b7 117 [g124, g27_1, g27_2, .bool s23], .ow 9 (.slice (some ⟨b121, 0, none⟩) (cpyAt z56 (w64 (s37.1 + 1)) (z56.length : Int) z64).length cap122) ((cpyAt z56 (w64 (s37.1 + 1)) (z56.length : Int) z64).set s37.1.toNat r34), .od 23 (.slice (some ⟨b31, 0, none⟩) r20.1.length cap32) r20.1 x22_1, .od 23 x22_2 r20.2.1 x22_3]) ?_ (fun s123 g124 => ?_)
                    · refine J_draw [3, 6] (by kernel_rfl) ?_
                      refine JP_take (i := 0) [0, 1, 2, 4, 5, 7, 8] [3, 6] rfl (by kernel_rfl) (by kernel_rfl) (by kernel_rfl) rfl rfl (wants_none rfl) rfl (ex_move rfl) ?_
                      refine JP_take (i := 1) [0, 1, 2, 4, 5, 7, 8] [3, 6] rfl (by kernel_rfl) (by kernel_rfl) (by kernel_rfl) rfl rfl (wants_none rfl) rfl (ex_move rfl) ?_
                      refine JP_take (i := 2) [0, 1, 2, 4, 5, 7, 8] [3, 6] rfl (by kernel_rfl) (by kernel_rfl) (by kernel_rfl) rfl rfl (wants_none rfl) rfl (ex_nilCheck rfl) ?_
                      refine JP_take (i := 3) [0, 1, 2, 4, 5, 7, 8] [3, 6] rfl (by kernel_rfl) (by kernel_rfl) (by kernel_rfl) rfl rfl (wants_none rfl) rfl (ex_fieldAddr fi_117_0 rfl rfl) ?_
                      refine JP_take (i := 5) [0, 1, 2, 4, 5, 7, 8] [3, 6] rfl (by kernel_rfl) (by kernel_rfl) (by kernel_rfl) rfl rfl (wants_none rfl) rfl (ex_move rfl) ?_
                      refine JP_take (i := 6) [0, 1, 2, 4, 5, 7, 8] [3, 6] rfl (by kernel_rfl) (by kernel_rfl) (by kernel_rfl) rfl rfl (wants_none rfl) rfl (ex_move rfl) ?_
                      refine JP_bnd fun y125 hy126 => ?_
                      refine JP_take (i := 7) [0, 1, 2, 4, 5, 7, 8] [3, 6] rfl (by kernel_rfl) (by kernel_rfl) (by kernel_rfl) rfl rfl (wants_none rfl) rfl (ex_od 5 rfl (ex_index_ow 5 Try.underlying33 ti_23 rfl rfl rfl hy126)) ?_
                      refine JP_go [0, 1, 2, 4, 5, 7, 8] [3, 6] rfl rfl rfl (fun w128 h1_129 hp127 => ?_)
                      refine JD_two (i := 4) (j := 8) (by kernel_rfl) ?_ ?_
                      · refine JO_q rfl (wants_none rfl) rfl (ex_load_bx 6 ti_33 rfl rfl rfl) ?_
                        refine JD_one (i := 8) (by kernel_rfl) ?_
                        refine JO_st rfl (wants_none rfl) rfl (st_od 7 rfl (st_load_ow_o 7 (opens_sl _) ti_23 rfl rfl hy126) (fun _ => rfl)) (fun _ hk => nomatch hk) (fun v130 => ?_)
                        refine JD_one (i := 9) (by kernel_rfl) ?_
                        refine JO_st rfl (wants_none rfl) rfl (st_buildSlice (vs := [v130]) ([y125] : List (List Int)) Try.underlying33 ti_23 zi_23 rfl rfl rfl (fun w hh => ⟨(hh.rd 0 rfl), trivial⟩)) (fun _ hk => nomatch hk) (fun b131 => ?_)
                        refine JD_bnd fun z132 hz133 => ?_
                        refine JD_one (i := 10) (by kernel_rfl) ?_
                        refine JO_st rfl (wants_none rfl) rfl (st_append 5 Try.underlying33 ti_23 zi_23 rfl bi_23 rfl rfl rfl rfl (fun w hh => hh.src_ow 0 rfl) hz133) (sub_ow 0 rfl) (fun v134 => ?_)
                        refine JD_take (i := 11) hp127 rfl (by kernel_rfl) (by kernel_rfl) (by kernel_rfl) (wants_none rfl) rfl (ex_nilCheck rfl) ?_
                        refine JD_take (i := 12) hp127 rfl (by kernel_rfl) (by kernel_rfl) (by kernel_rfl) (wants_none rfl) rfl (ex_fieldAddr fi_117_0 rfl rfl) ?_
                        refine JD_one (i := 13) (by kernel_rfl) ?_
                        refine JO_sk rfl (wants_none rfl) (sk_store_bx' 8 ti_33 rfl rfl (fun w hh => (hh.cv_ow 5 rfl)) rfl rfl rfl rfl) (sub_bx 1 rfl) ?_
                        refine JD_done (by kernel_rfl) ?_
                        exact N_meet' v134 ⟨rfl, rfl, rfl, rfl, rfl, rfl, rfl, rfl, trivial⟩ [4, 5, 6, 7, 8, 3, 9, 10] rfl rfl
                      · refine JO_st rfl (wants_none rfl) rfl (st_od 7 rfl (st_load_ow_o 7 (opens_sl _) ti_23 rfl rfl hy126) (fun _ => rfl)) (fun _ hk => nomatch hk) (fun v135 => ?_)
                        refine JD_two (i := 4) (j := 9) (by kernel_rfl) ?_ ?_
                        · refine JO_q rfl (wants_none rfl) rfl (ex_load_bx 7 ti_33 rfl rfl rfl) ?_
                          refine JD_one (i := 9) (by kernel_rfl) ?_
                          refine JO_st rfl (wants_none rfl) rfl (st_buildSlice (vs := [v135]) ([y125] : List (List Int)) Try.underlying33 ti_23 zi_23 rfl rfl rfl (fun w hh => ⟨(hh.rd 0 rfl), trivial⟩)) (fun _ hk => nomatch hk) (fun b136 => ?_)
                          refine JD_bnd fun z137 hz138 => ?_
                          refine JD_one (i := 10) (by kernel_rfl) ?_
                          refine JO_st rfl (wants_none rfl) rfl (st_append 5 Try.underlying33 ti_23 zi_23 rfl bi_23 rfl rfl rfl rfl (fun w hh => hh.src_ow 0 rfl) hz138) (sub_ow 0 rfl) (fun v139 => ?_)
                          refine JD_take (i := 11) hp127 rfl (by kernel_rfl) (by kernel_rfl) (by kernel_rfl) (wants_none rfl) rfl (ex_nilCheck rfl) ?_
                          refine JD_take (i := 12) hp127 rfl (by kernel_rfl) (by kernel_rfl) (by kernel_rfl) (wants_none rfl) rfl (ex_fieldAddr fi_117_0 rfl rfl) ?_
                          refine JD_one (i := 13) (by kernel_rfl) ?_
                          refine JO_sk rfl (wants_none rfl) (sk_store_bx' 8 ti_33 rfl rfl (fun w hh => (hh.cv_ow 5 rfl)) rfl rfl rfl rfl) (sub_bx 1 rfl) ?_
                          refine JD_done (by kernel_rfl) ?_
                          exact N_meet' v139 ⟨rfl, rfl, rfl, rfl, rfl, rfl, rfl, rfl, trivial⟩ [4, 5, 6, 7, 8, 3, 9, 10] rfl rfl
                        · refine JO_st rfl (wants_none rfl) rfl (st_buildSlice (vs := [v135]) ([y125] : List (List Int)) Try.underlying33 ti_23 zi_23 rfl rfl rfl (fun w hh => ⟨(hh.rd 0 rfl), trivial⟩)) (fun _ hk => nomatch hk) (fun b140 => ?_)
                          refine JD_one (i := 4) (by kernel_rfl) ?_
                          refine JO_q rfl (wants_none rfl) rfl (ex_load_bx 8 ti_33 rfl rfl rfl) ?_
                          refine JD_bnd fun z141 hz142 => ?_
                          refine JD_one (i := 10) (by kernel_rfl) ?_
                          refine JO_st rfl (wants_none rfl) rfl (st_append 5 Try.underlying33 ti_23 zi_23 rfl bi_23 rfl rfl rfl rfl (fun w hh => hh.src_ow 0 rfl) hz142) (sub_ow 0 rfl) (fun v143 => ?_)
                          refine JD_take (i := 11) hp127 rfl (by kernel_rfl) (by kernel_rfl) (by kernel_rfl) (wants_none rfl) rfl (ex_nilCheck rfl) ?_
                          refine JD_take (i := 12) hp127 rfl (by kernel_rfl) (by kernel_rfl) (by kernel_rfl) (wants_none rfl) rfl (ex_fieldAddr fi_117_0 rfl rfl) ?_
                          refine JD_one (i := 13) (by kernel_rfl) ?_
                          refine JO_sk rfl (wants_none rfl) (sk_store_bx' 8 ti_33 rfl rfl (fun w hh => (hh.cv_ow 5 rfl)) rfl rfl rfl rfl) (sub_bx 1 rfl) ?_
                          refine JD_done (by kernel_rfl) ?_
                          exact N_meet' v143 ⟨rfl, rfl, rfl, rfl, rfl, rfl, rfl, rfl, trivial⟩ [4, 5, 6, 7, 8, 3, 9, 10] rfl rfl
                    · refine N_then ?_
                      refine J_seq ?_
                      refine J_region ?_
                      refine JL_q (wants_none rfl) rfl (ex_move rfl) ?_
                      refine JL_q (wants_none rfl) rfl (ex_move rfl) ?_
                      refine JL_q (wants_none rfl) rfl (ex_nilCheck rfl) ?_
                      refine JL_q (wants_none rfl) rfl (ex_fieldAddr fi_117_1 rfl rfl) ?_
                      refine JL_q (wants_none rfl) rfl (ex_load_bx 4 ti_23 rfl rfl rfl) ?_
                      refine JL_q (wants_none rfl) rfl (ex_move rfl) ?_
                      refine JL_st (wants_none rfl) rfl (st_buildSlice (vs := [.int .i64 s11.2.2.2.2.2]) ([s11.2.2.2.2.2] : List Int) Try.underlying23 ti_2 zi_2 rfl rfl rfl (fun w hh => ⟨(Rd.mk_int _ _ _), trivial⟩)) (fun b144 => ?_)
                      refine JL_bnd fun z145 hz146 => ?_
                      refine JL_st (wants_none rfl) rfl (st_append 3 Try.underlying23 ti_2 zi_2 rfl bi_2 rfl rfl rfl rfl (fun w hh => hh.src_ow 0 rfl) hz146) (fun v147 => ?_)
                      refine JL_q (wants_none rfl) rfl (ex_nilCheck rfl) ?_
                      refine JL_q (wants_none rfl) rfl (ex_fieldAddr fi_117_1 rfl rfl) ?_
                      refine JL_sk (wants_none rfl) (sk_store_bx' 5 ti_23 rfl rfl (fun w hh => (hh.cv_ow 3 rfl)) rfl rfl rfl rfl) ?_
                      refine JL_nil ?_
                      refine N_then ?_
                      refine J_seq ?_
                      refine J_cut' (S' := (List (List Int))) (G' := Value) (fun s148 g149 => [(0, v0_), (2, .int .i64 p2), (7, .pointer (some ⟨b7, 0, none⟩)), (8, (.slice (some ⟨b121, 0, none⟩) (cpyAt z56 (w64 (s37.1 + 1)) (z56.length : Int) z64).length cap122)), (9, .int .i64 s11.2.2.2.2.2), (10, (.slice (some ⟨b31, 0, none⟩) r20.1.length cap32)), (11, x22_2), (13, .int .i64 s26.2.2.2.2)]) (fun s148 g149 => [.rd v0_ p0, .ow 23 g124 s123, .ow 2 v147 z145, .ow 23 g149 s148, .bx b7 117 [g124, v147, g149, .bool s23], .ow 9 (.slice (some ⟨b121, 0, none⟩) (cpyAt z56 (w64 (s37.1 + 1)) (z56.length : Int) z64).length cap122) ((cpyAt z56 (w64 (s37.1 + 1)) (z56.length : Int) z64).set s37.1.toNat r34), .od 23 (.slice (some ⟨b31, 0, none⟩) r20.1.length cap32) r20.1 x22_1, .od 23 x22_2 r20.2.1 x22_3]) ?_ (fun s148 g149 => ?_)
                      · refine J_draw [4, 5, 8] (by kernel_rfl) ?_
                        refine JP_take (i := 0) [0, 1, 2, 3, 6, 7] [4, 5, 8] rfl (by kernel_rfl) (by kernel_rfl) (by kernel_rfl) rfl rfl (wants_none rfl) rfl (ex_move rfl) ?_
                        refine JP_take (i := 1) [0, 1, 2, 3, 6, 7] [4, 5, 8] rfl (by kernel_rfl) (by kernel_rfl) (by kernel_rfl) rfl rfl (wants_none rfl) rfl (ex_move rfl) ?_
                        refine JP_take (i := 2) [0, 1, 2, 3, 6, 7] [4, 5, 8] rfl (by kernel_rfl) (by kernel_rfl) (by kernel_rfl) rfl rfl (wants_none rfl) rfl (ex_nilCheck rfl) ?_
                        refine JP_take (i := 3) [0, 1, 2, 3, 6, 7] [4, 5, 8] rfl (by kernel_rfl) (by kernel_rfl) (by kernel_rfl) rfl rfl (wants_none rfl) rfl (ex_fieldAddr fi_117_2 rfl rfl) ?_
                        refine JP_take (i := 5) [0, 1, 2, 3, 6, 7] [4, 5, 8] rfl (by kernel_rfl) (by kernel_rfl) (by kernel_rfl) rfl rfl (wants_none rfl) rfl (ex_move rfl) ?_
                        refine JP_take (i := 6) [0, 1, 2, 3, 6, 7] [4, 5, 8] rfl (by kernel_rfl) (by kernel_rfl) (by kernel_rfl) rfl rfl (wants_none rfl) rfl (ex_move rfl) ?_
                        refine JP_bnd fun y150 hy151 => ?_
                        refine JP_od_open (v := x22_2) 8 rfl hy151 ?_; rintro b152 cap153 rfl
                        refine JP_take (i := 7) [0, 1, 2, 3, 6, 7] [4, 5, 8] rfl (by kernel_rfl) (by kernel_rfl) (by kernel_rfl) rfl rfl (wants_none rfl) rfl (ex_index_own Try.underlying33 ti_23 rfl rfl hy151 (by first | rfl | simp)) ?_
                        refine JP_go [0, 1, 2, 3, 6, 7] [4, 5, 8] rfl rfl rfl (fun w155 h1_156 hp154 => ?_)
                        refine JD_two (i := 4) (j := 8) (by kernel_rfl) ?_ ?_
                        · refine JO_q rfl (wants_none rfl) rfl (ex_load_bx 5 ti_33 rfl rfl rfl) ?_
                          refine JD_one (i := 8) (by kernel_rfl) ?_
                          refine JO_st rfl (wants_none rfl) rfl (st_od 8 rfl (st_load_ow_o 8 (opens_sl _) ti_23 rfl rfl hy151) (fun _ => rfl)) (fun _ hk => nomatch hk) (fun v157 => ?_)
                          refine JD_one (i := 9) (by kernel_rfl) ?_
                          refine JO_st rfl (wants_none rfl) rfl (st_buildSlice (vs := [v157]) ([y150] : List (List Int)) Try.underlying33 ti_23 zi_23 rfl rfl rfl (fun w hh => ⟨(hh.rd 0 rfl), trivial⟩)) (fun _ hk => nomatch hk) (fun b158 => ?_)
                          refine JD_bnd fun z159 hz160 => ?_
                          refine JD_one (i := 10) (by kernel_rfl) ?_
                          refine JO_st rfl (wants_none rfl) rfl (st_append 6 Try.underlying33 ti_23 zi_23 rfl bi_23 rfl rfl rfl rfl (fun w hh => hh.src_ow 0 rfl) hz160) (sub_ow 0 rfl) (fun v161 => ?_)
                          refine JD_take (i := 11) hp154 rfl (by kernel_rfl) (by kernel_rfl) (by kernel_rfl) (wants_none rfl) rfl (ex_nilCheck rfl) ?_
                          refine JD_take (i := 12) hp154 rfl (by kernel_rfl) (by kernel_rfl) (by kernel_rfl) (wants_none rfl) rfl (ex_fieldAddr fi_117_2 rfl rfl) ?_
                          refine JD_one (i := 13) (by kernel_rfl) ?_
                          refine JO_sk rfl (wants_none rfl) (sk_store_bx' 7 ti_33 rfl rfl (fun w hh => (hh.cv_ow 6 rfl)) rfl rfl rfl rfl) (sub_bx 1 rfl) ?_
                          refine JD_done (by kernel_rfl) ?_
                          exact N_meet' v161 ⟨rfl, rfl, rfl, rfl, rfl, rfl, rfl, rfl, trivial⟩ [3, 4, 5, 6, 7, 8, 9, 10] rfl rfl
                        · refine JO_st rfl (wants_none rfl) rfl (st_od 8 rfl (st_load_ow_o 8 (opens_sl _) ti_23 rfl rfl hy151) (fun _ => rfl)) (fun _ hk => nomatch hk) (fun v162 => ?_)
                          refine JD_two (i := 4) (j := 9) (by kernel_rfl) ?_ ?_
                          · refine JO_q rfl (wants_none rfl) rfl (ex_load_bx 6 ti_33 rfl rfl rfl) ?_
                            refine JD_one (i := 9) (by kernel_rfl) ?_
                            refine JO_st rfl (wants_none rfl) rfl (st_buildSlice (vs := [v162]) ([y150] : List (List Int)) Try.underlying33 ti_23 zi_23 rfl rfl rfl (fun w hh => ⟨(hh.rd 0 rfl), trivial⟩)) (fun _ hk => nomatch hk) (fun b163 => ?_)
                            refine JD_bnd fun z164 hz165 => ?_
                            refine JD_one (i := 10) (by kernel_rfl) ?_
                            refine JO_st rfl (wants_none rfl) rfl (st_append 6 Try.underlying33 ti_23 zi_23 rfl bi_23 rfl rfl rfl rfl (fun w hh => hh.src_ow 0 rfl) hz165) (sub_ow 0 rfl) (fun v166 => ?_)
                            refine JD_take (i := 11) hp154 rfl (by kernel_rfl) (by kernel_rfl) (by kernel_rfl) (wants_none rfl) rfl (ex_nilCheck rfl) ?_
                            refine JD_take (i := 12) hp154 rfl (by kernel_rfl) (by kernel_rfl) (by kernel_rfl) (wants_none rfl) rfl (ex_fieldAddr fi_117_2 rfl rfl) ?_
                            refine JD_one (i := 13) (by kernel_rfl) ?_
                            refine JO_sk rfl (wants_none rfl) (sk_store_bx' 7 ti_33 rfl rfl (fun w hh => (hh.cv_ow 6 rfl)) rfl rfl rfl rfl) (sub_bx 1 rfl) ?_
                            refine JD_done (by kernel_rfl) ?_
                            exact N_meet' v166 ⟨rfl, rfl, rfl, rfl, rfl, rfl, rfl, rfl, trivial⟩ [3, 4, 5, 6, 7, 8, 9, 10] rfl rfl
                          · refine JO_st rfl (wants_none rfl) rfl (st_buildSlice (vs := [v162]) ([y150] : List (List Int)) Try.underlying33 ti_23 zi_23 rfl rfl rfl (fun w hh => ⟨(hh.rd 0 rfl), trivial⟩)) (fun _ hk => nomatch hk) (fun b167 => ?_)
                            refine JD_one (i := 4) (by kernel_rfl) ?_
                            refine JO_q rfl (wants_none rfl) rfl (ex_load_bx 7 ti_33 rfl rfl rfl) ?_
                            refine JD_bnd fun z168 hz169 => ?_
                            refine JD_one (i := 10) (by kernel_rfl) ?_
                            refine JO_st rfl (wants_none rfl) rfl (st_append 6 Try.underlying33 ti_23 zi_23 rfl bi_23 rfl rfl rfl rfl (fun w hh => hh.src_ow 0 rfl) hz169) (sub_ow 0 rfl) (fun v170 => ?_)
                            refine JD_take (i := 11) hp154 rfl (by kernel_rfl) (by kernel_rfl) (by kernel_rfl) (wants_none rfl) rfl (ex_nilCheck rfl) ?_
                            refine JD_take (i := 12) hp154 rfl (by kernel_rfl) (by kernel_rfl) (by kernel_rfl) (wants_none rfl) rfl (ex_fieldAddr fi_117_2 rfl rfl) ?_
                            refine JD_one (i := 13) (by kernel_rfl) ?_
                            refine JO_sk rfl (wants_none rfl) (sk_store_bx' 7 ti_33 rfl rfl (fun w hh => (hh.cv_ow 6 rfl)) rfl rfl rfl rfl) (sub_bx 1 rfl) ?_
                            refine JD_done (by kernel_rfl) ?_
                            exact N_meet' v170 ⟨rfl, rfl, rfl, rfl, rfl, rfl, rfl, rfl, trivial⟩ [3, 4, 5, 6, 7, 8, 9, 10] rfl rfl
                      · refine N_then ?_
                        refine J_seq ?_
                        refine J_region ?_
                        refine JL_q (wants_none rfl) rfl (ex_move rfl) ?_
                        refine JL_q (wants_none rfl) rfl (ex_nilCheck rfl) ?_
                        refine JL_q (wants_none rfl) rfl (ex_fieldAddr fi_117_0 rfl rfl) ?_
                        refine JL_q (wants_none rfl) rfl (ex_load_bx 4 ti_33 rfl rfl rfl) ?_
                        refine JL_q (wants_none rfl) rfl (ex_len_ow 1 Try.underlying33 rfl rfl) ?_
                        refine JL_q (wants_none rfl) rfl (ex_eql rfl rfl) ?_
                        refine JL_nil ?_
                        refine N_then ?_
                        refine J_if rfl (fun h171 => ?_) (fun h171 => ?_)
                        · refine J_seq ?_
                          refine J_region ?_
                          refine JL_q (wants_none rfl) rfl (ex_move rfl) ?_
                          refine JL_q (wants_none rfl) rfl (ex_nilCheck rfl) ?_
                          refine JL_q (wants_none rfl) rfl (ex_fieldAddr fi_117_3 rfl rfl) ?_
                          refine JL_sk (wants_none rfl) (sk_store_bx' 4 ti_4 rfl rfl (fun w hh => cv_bool) rfl rfl rfl rfl) ?_
                          refine JL_nil ?_
                          refine N_then ?_
                          refine J_seq ?_
                          refine J_region ?_
                          refine JL_q (wants_none rfl) rfl (ex_move rfl) ?_
                          refine JL_q (wants_none rfl) rfl (ex_assign rfl) ?_
                          refine JL_nil ?_
                          refine N_then ?_
                          refine J_ret ?_
                          refine N_block_ret ?_
                          refine N_then_ret ?_
                          refine N_round_ret ?_
                          refine N_block_ret ?_
                          refine N_then_ret ?_
                          refine N_round_ret ?_
                          refine N_then_ret ?_
                          exact N_ret1 rfl (rv_tmp rfl) (fun w hh => ⟨(g124, v147, g149, b7), rfl, hh.sel [1, 2, 3, 4] rfl⟩)
                        · refine J_skip ?_
                          refine N_block ?_
                          refine N_then ?_
                          refine J_region ?_
                          refine JL_q (wants_none rfl) rfl (ex_move rfl) ?_
                          refine JL_q (wants_none rfl) rfl (ex_add rfl rfl) ?_
                          refine JL_q (wants_none rfl) rfl (ex_assign rfl) ?_
                          refine JL_nil ?_
                          exact N_next' (g124, v147, g149, (.slice (some ⟨b121, 0, none⟩) (cpyAt z56 (w64 (s37.1 + 1)) (z56.length : Int) z64).length cap122)) ⟨rfl, rfl, rfl, rfl, rfl, rfl, rfl, rfl, trivial⟩ [0, 1, 2, 3, 4, 5, 6, 7] rfl rfl
            · refine J_exit ?_
              refine N_then_exit ?_
              exact N_break' (g27_0, g27_1, g27_2, g27_3) ⟨rfl, rfl, rfl, rfl, rfl, rfl, rfl, rfl, trivial⟩ [0, 1, 2, 3, 4, 5, 6, 7] rfl rfl
          · obtain ⟨g27_0, g27_1, g27_2, g27_3⟩ := g27
            refine N_block ?_
            refine N_then ?_
            refine J_region ?_
            refine JL_q (wants_none rfl) rfl (ex_move rfl) ?_
            refine JL_q (wants_none rfl) rfl (ex_add rfl rfl) ?_
            refine JL_q (wants_none rfl) rfl (ex_assign rfl) ?_
            refine JL_nil ?_
            exact N_next' (g27_0, g27_1, g27_2, g27_3) ⟨rfl, rfl, rfl, rfl, rfl, trivial⟩ [0, 1, 2, 3, 4, 5] rfl rfl
    · refine J_exit ?_
      refine N_then_exit ?_
      exact N_break' (g12_0, g12_1, g12_2, g12_3) ⟨rfl, rfl, rfl, rfl, rfl, trivial⟩ [0, 1, 2, 3, 4, 5] rfl rfl
  · obtain ⟨g12_0, g12_1, g12_2, g12_3⟩ := g12
    refine N_then ?_
    refine J_seq ?_
    refine J_region ?_
    refine JL_q (wants_none rfl) rfl (ex_move rfl) ?_
    refine JL_q (wants_none rfl) rfl (ex_assign rfl) ?_
    refine JL_nil ?_
    refine N_then ?_
    refine J_ret ?_
    exact N_ret1 rfl (rv_tmp rfl) (fun w hh => ⟨(g12_0, g12_1, g12_2, b7), rfl, hh.sel [1, 2, 3, 4] rfl⟩)

set_option maxHeartbeats 40000000 in
theorem c_spec_l10Row (A : Nat → Prop) (w : World) (hA : ∀ k, A k → k < w.heap.size) (v0_ : Value) (p0 : (List (List Int))) (hp0 : Rd A w v0_ p0) (v1_ : Value) (p1 : (List Int)) (hp1 : Rd A w v1_ p1) (r : Int) (hr : F_spec_l10Row p0 p1 = some r) :
    Con Try.prog 71 [v0_, v1_] A w (fun x_ : Unit => .int .i64 r) (fun x_ => []) := by
  refine Con_of (v := fun (r : Int) (x_ : Unit) => .int .i64 r) (fs := fun r x_ => []) Try.func71 rfl Try.ntmps71 rfl (((SH.start hA).start_rd rfl hp0).start_rd rfl hp1) rfl ?_ hr
  unfold F_spec_l10Row
  refine J_seq ?_
  refine J_region ?_
  refine JL_q (wants_none rfl) rfl (ex_assign rfl) ?_
  refine JL_nil ?_
  refine N_then ?_
  refine J_seq ?_
  refine J_seq ?_
  refine J_region ?_
  refine JL_q (wants_none rfl) rfl (ex_assign rfl) ?_
  refine JL_nil ?_
  refine N_then ?_
  refine J_loop' (S := Int) (G := Unit) (F_spec_l10Row_L1 p0 p1) (fun s1 _ => [(0, v0_), (1, v1_), (5, .int .i64 s1)]) (fun s1 _ => [.rd v0_ p0, .rd v1_ p1]) 0 () ⟨rfl, rfl, rfl, trivial⟩ [1, 0] rfl rfl (fun s1 g2 => ?_) (fun s1 g2 => ?_)
  · unfold F_spec_l10Row_L1
    refine J_seq ?_
    refine J_seq ?_
    refine J_region ?_
    refine JL_q (wants_none rfl) rfl (ex_move rfl) ?_
    refine JL_q (wants_none rfl) rfl (ex_move rfl) ?_
    refine JL_q (wants_none rfl) rfl (ex_len_rd 0 Try.underlying33 rfl rfl) ?_
    refine JL_q (wants_none rfl) rfl (ex_lss rfl rfl) ?_
    refine JL_nil ?_
    refine N_then ?_
    refine J_if rfl (fun h3 => ?_) (fun h3 => ?_)
    · refine J_skip ?_
      refine N_then ?_
      refine J_seq ?_
      refine J_block ?_
      refine J_seq ?_
      refine J_region ?_
      refine JL_q (wants_none rfl) rfl (ex_move rfl) ?_
      refine JL_q (wants_none rfl) rfl (ex_move rfl) ?_
      refine JL_bnd fun y4 hy5 => ?_
      refine JL_st (wants_none rfl) rfl (st_index 0 Try.underlying33 ti_23 rfl rfl rfl hy5) (fun q6 => ?_)
      refine JL_st (wants_none rfl) rfl (st_load_pt_o 0 (opens_sl _) ti_23 rfl rfl) (fun v7 => ?_)
      refine JL_q (wants_none rfl) rfl (ex_move rfl) ?_
      refine JL_bnd fun r8 hr9 => ?_
      refine JL_call (wants_none rfl) rfl Try.call105 rfl (Ca_of0 fun w hh => c_spec_l00Same _ w (fun _ hk => hk.elim) _ _ (hh.rd0 0 rfl) _ _ (hh.rd0 3 rfl) _ hr9) (fun _ => ?_)
      refine JL_nil ?_
      refine N_then ?_
      refine J_if rfl (fun h10 => ?_) (fun h10 => ?_)
      · refine J_seq ?_
        refine J_region ?_
        refine JL_q (wants_none rfl) rfl (ex_move rfl) ?_
        refine JL_q (wants_none rfl) rfl (ex_assign rfl) ?_
        refine JL_nil ?_
        refine N_then ?_
        refine J_ret ?_
        refine N_block_ret ?_
        refine N_then_ret ?_
        refine N_round_ret ?_
        refine N_then_ret ?_
        exact N_ret1 rfl (rv_tmp rfl) (fun w hh => ⟨(), rfl, hh.sel [] rfl⟩)
      · refine J_skip ?_
        refine N_block ?_
        refine N_then ?_
        refine J_region ?_
        refine JL_q (wants_none rfl) rfl (ex_move rfl) ?_
        refine JL_q (wants_none rfl) rfl (ex_add rfl rfl) ?_
        refine JL_q (wants_none rfl) rfl (ex_assign rfl) ?_
        refine JL_nil ?_
        exact N_next' () ⟨rfl, rfl, rfl, trivial⟩ [2, 3] rfl rfl
    · refine J_exit ?_
      refine N_then_exit ?_
      exact N_break' () ⟨rfl, rfl, rfl, trivial⟩ [0, 1] rfl rfl
  · refine N_then ?_
    refine J_seq ?_
    refine J_region ?_
    refine JL_q (wants_none rfl) rfl (ex_assign rfl) ?_
    refine JL_nil ?_
    refine N_then ?_
    refine J_ret ?_
    exact N_ret1 rfl (rv_tmp rfl) (fun w hh => ⟨(), rfl, hh.sel [] rfl⟩)

set_option maxHeartbeats 40000000 in
theorem c_spec_AreJoinable (A : Nat → Prop) (w : World) (hA : ∀ k, A k → k < w.heap.size) (v0_ : Value) (p0 : (List GRewrite)) (hp0 : Rd A w v0_ p0) (v1_ : Value) (p1 : (List Int)) (hp1 : Rd A w v1_ p1) (v2_ : Value) (p2 : (List Int)) (hp2 : Rd A w v2_ p2) (p3 : Int) (r : Bool × Int) (hr : F_spec_AreJoinable p0 p1 p2 p3 = some r) :
    Con Try.prog 33 [v0_, v1_, v2_, .int .i64 p3] A w (fun x_ : Unit => .tuple #[.bool r.1, .int .i64 r.2]) (fun x_ => []) := by
  refine Con_of (v := fun (r : Bool × Int) (x_ : Unit) => .tuple #[.bool r.1, .int .i64 r.2]) (fs := fun r x_ => []) Try.func33 rfl Try.ntmps33 rfl ((((SH.start hA).start_rd rfl hp0).start_rd rfl hp1).start_rd rfl hp2) rfl ?_ hr
  unfold F_spec_AreJoinable
  refine J_seq ?_
  refine J_region ?_
  refine JL_q (wants_none rfl) rfl (ex_assign rfl) ?_
  refine JL_q (wants_none rfl) rfl (ex_assign rfl) ?_
  refine JL_nil ?_
  refine N_then ?_
  refine J_seq ?_
  refine J_cut' (S' := Unit) (G' := Unit) (fun _ _ => [(0, v0_), (1, v1_), (2, v2_), (3, .int .i64 p3)]) (fun _ _ => [.rd v0_ p0, .rd v1_ p1, .rd v2_ p2]) ?_ (fun s1 g2 => ?_)
  · refine J_seq ?_
    refine J_region ?_
    refine JL_q (wants_none rfl) rfl (ex_move rfl) ?_
    refine JL_bnd fun r3 hr4 => ?_
    refine JL_call (wants_none rfl) rfl Try.call67 rfl (Ca_of0 fun w hh => c_spec_l10Is _ w (fun _ hk => hk.elim) _ _ (hh.rd0 2 rfl) _ hr4) (fun _ => ?_)
    refine JL_q (wants_none rfl) rfl (ex_not rfl) ?_
    refine JL_q (wants_none rfl) rfl (ex_move rfl) ?_
    refine JL_cond (fun h5 => ?_) (fun h5 => ?_)
    · refine JL_passed rfl rfl rfl h5 ?_
      refine JL_passed rfl rfl rfl h5 ?_
      refine JL_passed rfl rfl rfl h5 ?_
      refine JL_q (wants_none rfl) rfl (ex_pick_true rfl h5 rfl) ?_
      refine JL_q (wants_none rfl) rfl (ex_move rfl) ?_
      refine JL_passed rfl rfl rfl rfl ?_
      refine JL_passed rfl rfl rfl rfl ?_
      refine JL_passed rfl rfl rfl rfl ?_
      refine JL_q (wants_none rfl) rfl (ex_pick_true rfl rfl rfl) ?_
      refine JL_nil ?_
      refine N_then ?_
      refine J_if_true rfl rfl ?_
      refine J_seq ?_
      refine J_region ?_
      refine JL_q (wants_none rfl) rfl (ex_assign rfl) ?_
      refine JL_q (wants_none rfl) rfl (ex_assign rfl) ?_
      refine JL_nil ?_
      refine N_then ?_
      refine J_ret ?_
      refine N_mid_ret ?_
      refine N_then_ret ?_
      exact N_ret2 rfl (rv_tmp rfl) (rv_tmp rfl) (fun w hh => ⟨(), rfl, hh.sel [] rfl⟩)
    · refine JL_q (wants_some rfl rfl rfl h5) rfl (ex_move rfl) ?_
      refine JL_bnd fun r6 hr7 => ?_
      refine JL_call (wants_some rfl rfl rfl h5) rfl Try.call68 rfl (Ca_of0 fun w hh => c_spec_l03Is _ w (fun _ hk => hk.elim) _ _ (hh.rd0 1 rfl) _ hr7) (fun _ => ?_)
      refine JL_q (wants_some rfl rfl rfl h5) rfl (ex_not rfl) ?_
      refine JL_q (wants_none rfl) rfl (ex_pick_false rfl h5 rfl) ?_
      refine JL_q (wants_none rfl) rfl (ex_move rfl) ?_
      refine JL_cond (fun h8 => ?_) (fun h8 => ?_)
      · refine JL_passed rfl rfl rfl h8 ?_
        refine JL_passed rfl rfl rfl h8 ?_
        refine JL_passed rfl rfl rfl h8 ?_
        refine JL_q (wants_none rfl) rfl (ex_pick_true rfl h8 rfl) ?_
        refine JL_nil ?_
        refine N_then ?_
        refine J_if_true rfl rfl ?_
        refine J_seq ?_
        refine J_region ?_
        refine JL_q (wants_none rfl) rfl (ex_assign rfl) ?_
        refine JL_q (wants_none rfl) rfl (ex_assign rfl) ?_
        refine JL_nil ?_
        refine N_then ?_
        refine J_ret ?_
        refine N_mid_ret ?_
        refine N_then_ret ?_
        exact N_ret2 rfl (rv_tmp rfl) (rv_tmp rfl) (fun w hh => ⟨(), rfl, hh.sel [] rfl⟩)
      · refine JL_q (wants_some rfl rfl rfl h8) rfl (ex_move rfl) ?_
        refine JL_bnd fun r9 hr10 => ?_
        refine JL_call (wants_some rfl rfl rfl h8) rfl Try.call68 rfl (Ca_of0 fun w hh => c_spec_l03Is _ w (fun _ hk => hk.elim) _ _ (hh.rd0 0 rfl) _ hr10) (fun _ => ?_)
        refine JL_q (wants_some rfl rfl rfl h8) rfl (ex_not rfl) ?_
        refine JL_q (wants_none rfl) rfl (ex_pick_false rfl h8 rfl) ?_
        refine JL_nil ?_
        refine N_then ?_
        refine J_if rfl (fun h11 => ?_) (fun h11 => ?_)
        · refine J_seq ?_
          refine J_region ?_
          refine JL_q (wants_none rfl) rfl (ex_assign rfl) ?_
          refine JL_q (wants_none rfl) rfl (ex_assign rfl) ?_
          refine JL_nil ?_
          refine N_then ?_
          refine J_ret ?_
          refine N_mid_ret ?_
          refine N_then_ret ?_
          exact N_ret2 rfl (rv_tmp rfl) (rv_tmp rfl) (fun w hh => ⟨(), rfl, hh.sel [] rfl⟩)
        · refine J_skip ?_
          exact N_meet' () ⟨rfl, rfl, rfl, rfl, trivial⟩ [2, 1, 0] rfl rfl
  · refine N_then ?_
    refine J_seq ?_
    refine J_seq ?_
    refine J_region ?_
    refine JL_q (wants_none rfl) rfl (ex_move rfl) ?_
    refine JL_bnd fun r12 hr13 => ?_
    refine JL_call (wants_none rfl) rfl Try.call69 rfl (Ca_of0 fun w hh => c_spec_l05Budget _ w (fun _ hk => hk.elim) _ _ hr13) (fun _ => ?_)
    refine JL_q (wants_none rfl) rfl (ex_not rfl) ?_
    refine JL_nil ?_
    refine N_then ?_
    refine J_if rfl (fun h14 => ?_) (fun h14 => ?_)
    · refine J_seq ?_
      refine J_region ?_
      refine JL_q (wants_none rfl) rfl (ex_assign rfl) ?_
      refine JL_q (wants_none rfl) rfl (ex_assign rfl) ?_
      refine JL_nil ?_
      refine N_then ?_
      refine J_ret ?_
      refine N_then_ret ?_
      exact N_ret2 rfl (rv_tmp rfl) (rv_tmp rfl) (fun w hh => ⟨(), rfl, hh.sel [] rfl⟩)
    · refine J_skip ?_
      refine N_then ?_
      refine J_seq ?_
      refine J_region ?_
      refine JL_q (wants_none rfl) rfl (ex_move rfl) ?_
      refine JL_q (wants_none rfl) rfl (ex_move rfl) ?_
      refine JL_q (wants_none rfl) rfl (ex_move rfl) ?_
      refine JL_bnd fun r15 hr16 => ?_
      refine JL_call (wants_none rfl) rfl Try.call70 rfl (Ca_of (fun _ => rfl) fun w hh => c_spec_l10Find _ w hh.av' _ _ (hh.rd 0 rfl) _ _ (hh.rd 1 rfl) _ _ hr16) (fun x17 => ?_)
      obtain ⟨x17_0, x17_1, x17_2, x17_3⟩ := x17
      refine JL_q (wants_none rfl) rfl (ex_assign rfl) ?_
      refine JL_nil ?_
      refine N_then ?_
      refine J_seq ?_
      refine J_region ?_
      refine JL_q (wants_none rfl) rfl (ex_move rfl) ?_
      refine JL_q (wants_none rfl) rfl (ex_move rfl) ?_
      refine JL_q (wants_none rfl) rfl (ex_move rfl) ?_
      refine JL_bnd fun r18 hr19 => ?_
      refine JL_call (wants_none rfl) rfl Try.call70 rfl (Ca_of (fun _ => rfl) fun w hh => c_spec_l10Find _ w hh.av' _ _ (hh.rd 4 rfl) _ _ (hh.rd 6 rfl) _ _ hr19) (fun x20 => ?_)
      obtain ⟨x20_0, x20_1, x20_2, x20_3⟩ := x20
      refine JL_q (wants_none rfl) rfl (ex_assign rfl) ?_
      refine JL_nil ?_
      refine N_then ?_
      refine J_seq ?_
      refine J_seq ?_
      refine J_region ?_
      refine JL_q (wants_none rfl) rfl (ex_assign rfl) ?_
      refine JL_nil ?_
      refine N_then ?_
      refine J_loop' (S := Int) (G := Unit) (F_spec_AreJoinable_L1 r15 r18) (fun s21 _ => [(10, .pointer (some ⟨x17_3, 0, none⟩)), (11, .pointer (some ⟨x20_3, 0, none⟩)), (12, .int .i64 s21)]) (fun s21 _ => [.ow 23 x17_0 r15.1, .ow 2 x17_1 r15.2.1, .ow 23 x17_2 r15.2.2.1, .bx x17_3 117 [x17_0, x17_1, x17_2, .bool r15.2.2.2], .ow 23 x20_0 r18.1, .ow 2 x20_1 r18.2.1, .ow 23 x20_2 r18.2.2.1, .bx x20_3 117 [x20_0, x20_1, x20_2, .bool r18.2.2.2]]) 0 () ⟨rfl, rfl, rfl, trivial⟩ [4, 5, 6, 7, 0, 1, 2, 3] rfl rfl (fun s21 g22 => ?_) (fun s21 g22 => ?_)
      · unfold F_spec_AreJoinable_L1
        refine J_seq ?_
        refine J_seq ?_
        refine J_region ?_
        refine JL_q (wants_none rfl) rfl (ex_move rfl) ?_
        refine JL_q (wants_none rfl) rfl (ex_move rfl) ?_
        refine JL_q (wants_none rfl) rfl (ex_nilCheck rfl) ?_
        refine JL_q (wants_none rfl) rfl (ex_fieldAddr fi_117_0 rfl rfl) ?_
        refine JL_q (wants_none rfl) rfl (ex_load_bx 3 ti_33 rfl rfl rfl) ?_
        refine JL_q (wants_none rfl) rfl (ex_len_ow 0 Try.underlying33 rfl rfl) ?_
        refine JL_q (wants_none rfl) rfl (ex_lss rfl rfl) ?_
        refine JL_nil ?_
        refine N_then ?_
        refine J_if rfl (fun h23 => ?_) (fun h23 => ?_)
        · refine J_skip ?_
          refine N_then ?_
          refine J_seq ?_
          refine J_block ?_
          refine J_seq ?_
          refine J_draw [0] (by kernel_rfl) ?_
          refine JP_take (i := 0) [1, 2, 3, 4, 5, 6, 7] [0] rfl (by kernel_rfl) (by kernel_rfl) (by kernel_rfl) rfl rfl (wants_none rfl) rfl (ex_move rfl) ?_
          refine JP_take (i := 1) [1, 2, 3, 4, 5, 6, 7] [0] rfl (by kernel_rfl) (by kernel_rfl) (by kernel_rfl) rfl rfl (wants_none rfl) rfl (ex_nilCheck rfl) ?_
          refine JP_take (i := 2) [1, 2, 3, 4, 5, 6, 7] [0] rfl (by kernel_rfl) (by kernel_rfl) (by kernel_rfl) rfl rfl (wants_none rfl) rfl (ex_fieldAddr fi_117_0 rfl rfl) ?_
          refine JP_take (i := 3) [1, 2, 3, 4, 5, 6, 7] [0] rfl (by kernel_rfl) (by kernel_rfl) (by kernel_rfl) rfl rfl (wants_none rfl) rfl (ex_load_bx 6 ti_33 rfl rfl rfl) ?_
          refine JP_take (i := 4) [1, 2, 3, 4, 5, 6, 7] [0] rfl (by kernel_rfl) (by kernel_rfl) (by kernel_rfl) rfl rfl (wants_none rfl) rfl (ex_move rfl) ?_
          refine JP_take (i := 5) [1, 2, 3, 4, 5, 6, 7] [0] rfl (by kernel_rfl) (by kernel_rfl) (by kernel_rfl) rfl rfl (wants_none rfl) rfl (ex_nilCheck rfl) ?_
          refine JP_take (i := 6) [1, 2, 3, 4, 5, 6, 7] [0] rfl (by kernel_rfl) (by kernel_rfl) (by kernel_rfl) rfl rfl (wants_none rfl) rfl (ex_fieldAddr fi_117_0 rfl rfl) ?_
          refine JP_take (i := 7) [1, 2, 3, 4, 5, 6, 7] [0] rfl (by kernel_rfl) (by kernel_rfl) (by kernel_rfl) rfl rfl (wants_none rfl) rfl (ex_load_bx 2 ti_33 rfl rfl rfl) ?_
          refine JP_take (i := 8) [1, 2, 3, 4, 5, 6, 7] [0] rfl (by kernel_rfl) (by kernel_rfl) (by kernel_rfl) rfl rfl (wants_none rfl) rfl (ex_move rfl) ?_
          refine JP_bnd fun y24 hy25 => ?_
          refine JP_ow_open (v := x17_0) 0 rfl hy25 ?_; rintro b26 cap27 rfl
          refine JP_take (i := 9) [1, 2, 3, 4, 5, 6, 7] [0] rfl (by kernel_rfl) (by kernel_rfl) (by kernel_rfl) rfl rfl (wants_none rfl) rfl (ex_index_own Try.underlying33 ti_23 rfl rfl hy25 (by first | rfl | simp)) ?_
          refine JP_go [1, 2, 3, 4, 5, 6, 7] [0] rfl rfl rfl (fun w29 h1_30 hp28 => ?_)
          refine JD_one (i := 10) (by kernel_rfl) ?_
          refine JO_st rfl (wants_none rfl) rfl (st_load_ow_o 0 (opens_sl _) ti_23 rfl rfl hy25) (fun _ hk => nomatch hk) (fun v31 => ?_)
          refine JD_bnd fun r32 hr33 => ?_
          refine JD_one (i := 11) (by kernel_rfl) ?_
          refine JO_call rfl (wants_none rfl) rfl Try.call71 rfl (Ca_of0 fun w hh => c_spec_l10Row _ w (fun _ hk => hk.elim) _ _ (hh.ow0 5 rfl) _ _ (hh.rd0 0 rfl) _ hr33) (fun _ => ?_)
          refine JD_take (i := 12) hp28 rfl (by kernel_rfl) (by kernel_rfl) (by kernel_rfl) (wants_none rfl) rfl (ex_geq rfl rfl) ?_
          refine JD_done (by kernel_rfl) ?_
          refine N_then ?_
          refine J_if rfl (fun h34 => ?_) (fun h34 => ?_)
          · refine J_seq ?_
            refine J_region ?_
            refine JL_q (wants_none rfl) rfl (ex_assign rfl) ?_
            refine JL_q (wants_none rfl) rfl (ex_assign rfl) ?_
            refine JL_nil ?_
            refine N_then ?_
            refine J_ret ?_
            refine N_block_ret ?_
            refine N_then_ret ?_
            refine N_round_ret ?_
            refine N_then_ret ?_
            exact N_ret2 rfl (rv_tmp rfl) (rv_tmp rfl) (fun w hh => ⟨(), rfl, hh.sel [] rfl⟩)
          · refine J_skip ?_
            refine N_block ?_
            refine N_then ?_
            refine J_region ?_
            refine JL_q (wants_none rfl) rfl (ex_move rfl) ?_
            refine JL_q (wants_none rfl) rfl (ex_add rfl rfl) ?_
            refine JL_q (wants_none rfl) rfl (ex_assign rfl) ?_
            refine JL_nil ?_
            exact N_next' () ⟨rfl, rfl, rfl, trivial⟩ [1, 2, 3, 4, 5, 6, 7, 8] rfl rfl
        · refine J_exit ?_
          refine N_then_exit ?_
          exact N_break' () ⟨rfl, rfl, rfl, trivial⟩ [0, 1, 2, 3, 4, 5, 6, 7] rfl rfl
      · refine N_then ?_
        refine J_seq ?_
        refine J_seq ?_
        refine J_region ?_
        refine JL_q (wants_none rfl) rfl (ex_move rfl) ?_
        refine JL_q (wants_none rfl) rfl (ex_nilCheck rfl) ?_
        refine JL_q (wants_none rfl) rfl (ex_fieldAddr fi_117_3 rfl rfl) ?_
        refine JL_q (wants_none rfl) rfl (ex_load_bx 3 ti_4 rfl rfl rfl) ?_
        refine JL_q (wants_none rfl) rfl (ex_not rfl) ?_
        refine JL_q (wants_none rfl) rfl (ex_move rfl) ?_
        refine JL_cond (fun h35 => ?_) (fun h35 => ?_)
        · refine JL_passed rfl rfl rfl h35 ?_
          refine JL_passed rfl rfl rfl h35 ?_
          refine JL_passed rfl rfl rfl h35 ?_
          refine JL_passed rfl rfl rfl h35 ?_
          refine JL_passed rfl rfl rfl h35 ?_
          refine JL_q (wants_none rfl) rfl (ex_pick_true rfl h35 rfl) ?_
          refine JL_nil ?_
          refine N_then ?_
          refine J_if_true rfl rfl ?_
          refine J_seq ?_
          refine J_region ?_
          refine JL_q (wants_none rfl) rfl (ex_assign rfl) ?_
          refine JL_q (wants_none rfl) rfl (ex_assign rfl) ?_
          refine JL_nil ?_
          refine N_then ?_
          refine J_ret ?_
          refine N_then_ret ?_
          exact N_ret2 rfl (rv_tmp rfl) (rv_tmp rfl) (fun w hh => ⟨(), rfl, hh.sel [] rfl⟩)
        · refine JL_q (wants_some rfl rfl rfl h35) rfl (ex_move rfl) ?_
          refine JL_q (wants_some rfl rfl rfl h35) rfl (ex_nilCheck rfl) ?_
          refine JL_q (wants_some rfl rfl rfl h35) rfl (ex_fieldAddr fi_117_3 rfl rfl) ?_
          refine JL_q (wants_some rfl rfl rfl h35) rfl (ex_load_bx 7 ti_4 rfl rfl rfl) ?_
          refine JL_q (wants_some rfl rfl rfl h35) rfl (ex_not rfl) ?_
          refine JL_q (wants_none rfl) rfl (ex_pick_false rfl h35 rfl) ?_
          refine JL_nil ?_
          refine N_then ?_
          refine J_if rfl (fun h36 => ?_) (fun h36 => ?_)
          · refine J_seq ?_
            refine J_region ?_
            refine JL_q (wants_none rfl) rfl (ex_assign rfl) ?_
            refine JL_q (wants_none rfl) rfl (ex_assign rfl) ?_
            refine JL_nil ?_
            refine N_then ?_
            refine J_ret ?_
            refine N_then_ret ?_
            exact N_ret2 rfl (rv_tmp rfl) (rv_tmp rfl) (fun w hh => ⟨(), rfl, hh.sel [] rfl⟩)
          · refine J_skip ?_
            refine N_then ?_
            refine J_seq ?_
            refine J_region ?_
            refine JL_q (wants_none rfl) rfl (ex_assign rfl) ?_
            refine JL_q (wants_none rfl) rfl (ex_assign rfl) ?_
            refine JL_nil ?_
            refine N_then ?_
            refine J_ret ?_
            exact N_ret2 rfl (rv_tmp rfl) (rv_tmp rfl) (fun w hh => ⟨(), rfl, hh.sel [] rfl⟩)

set_option maxHeartbeats 40000000 in
theorem c_impl_size_impl_Rewrite (A : Nat → Prop) (w : World) (hA : ∀ k, A k → k < w.heap.size) (v0_ : Value) (p0 : (List GRewrite)) (hp0 : Rd A w v0_ p0) (r : Int) (hr : F_impl_size_impl_Rewrite p0 = some r) :
    Con Try.prog 92 [v0_] A w (fun x_ : Unit => .int .i64 r) (fun x_ => []) := by
  refine Con_of (v := fun (r : Int) (x_ : Unit) => .int .i64 r) (fs := fun r x_ => []) Try.func92 rfl Try.ntmps92 rfl ((SH.start hA).start_rd rfl hp0) rfl ?_ hr
  unfold F_impl_size_impl_Rewrite
  refine J_seq ?_
  refine J_region ?_
  refine JL_q (wants_none rfl) rfl (ex_assign rfl) ?_
  refine JL_nil ?_
  refine N_then ?_
  refine J_seq ?_
  refine J_region ?_
  refine JL_q (wants_none rfl) rfl (ex_move rfl) ?_
  refine JL_q (wants_none rfl) rfl (ex_len_rd 0 Try.underlying42 rfl rfl) ?_
  refine JL_q (wants_none rfl) rfl (ex_assign rfl) ?_
  refine JL_nil ?_
  refine N_then ?_
  refine J_ret ?_
  exact N_ret1 rfl (rv_tmp rfl) (fun w hh => ⟨(), rfl, hh.sel [] rfl⟩)

set_option maxHeartbeats 40000000 in
theorem c_impl_within (A : Nat → Prop) (w : World) (hA : ∀ k, A k → k < w.heap.size) (p0 : Int) (p1 : Int) (p2 : Int) (r : Bool) (hr : F_impl_within p0 p1 p2 = some r) :
    Con Try.prog 85 [.int .i64 p0, .int .i64 p1, .int .i64 p2] A w (fun x_ : Unit => .bool r) (fun x_ => []) := by
  refine Con_of (v := fun (r : Bool) (x_ : Unit) => .bool r) (fs := fun r x_ => []) Try.func85 rfl Try.ntmps85 rfl (SH.start hA) rfl ?_ hr
  unfold F_impl_within
  refine J_seq ?_
  refine J_region ?_
  refine JL_q (wants_none rfl) rfl (ex_assign rfl) ?_
  refine JL_nil ?_
  refine N_then ?_
  refine J_seq ?_
  refine J_region ?_
  refine JL_q (wants_none rfl) rfl (ex_move rfl) ?_
  refine JL_q (wants_none rfl) rfl (ex_move rfl) ?_
  refine JL_q (wants_none rfl) rfl (ex_leq rfl rfl) ?_
  refine JL_q (wants_none rfl) rfl (ex_move rfl) ?_
  refine JL_cond (fun h1 => ?_) (fun h1 => ?_)
  · refine JL_q (wants_some rfl rfl rfl h1) rfl (ex_move rfl) ?_
    refine JL_q (wants_some rfl rfl rfl h1) rfl (ex_move rfl) ?_
    refine JL_q (wants_some rfl rfl rfl h1) rfl (ex_leq rfl rfl) ?_
    refine JL_q (wants_none rfl) rfl (ex_pick_true rfl h1 rfl) ?_
    refine JL_q (wants_none rfl) rfl (ex_assign rfl) ?_
    refine JL_nil ?_
    refine N_then ?_
    refine J_ret ?_
    exact N_ret1 rfl (rv_tmp rfl) (fun w hh => ⟨(), rfl, hh.sel [] rfl⟩)
  · refine JL_passed rfl rfl rfl h1 ?_
    refine JL_passed rfl rfl rfl h1 ?_
    refine JL_passed rfl rfl rfl h1 ?_
    refine JL_q (wants_none rfl) rfl (ex_pick_false rfl h1 rfl) ?_
    refine JL_q (wants_none rfl) rfl (ex_assign rfl) ?_
    refine JL_nil ?_
    refine N_then ?_
    refine J_ret ?_
    exact N_ret1 rfl (rv_tmp rfl) (fun w hh => ⟨(), rfl, hh.sel [] rfl⟩)

set_option maxHeartbeats 40000000 in
theorem c_slices_IndexFunc_Simpl_Rewrite_impl_Rewrite (A : Nat → Prop) (w : World) (hA : ∀ k, A k → k < w.heap.size) (v0_ : Value) (p0 : (List GRewrite)) (hp0 : Rd A w v0_ p0) (v1_ : Value) (p1 : (GRewrite → Option Bool)) (hp1 : Clo Try.prog w v1_ p1 .bool) (r : Int) (hr : F_slices_IndexFunc_Simpl_Rewrite_impl_Rewrite p0 p1 = some r) :
    Con Try.prog 116 [v0_, v1_] A w (fun x_ : Unit => .int .i64 r) (fun x_ => []) := by
  refine Con_of (v := fun (r : Int) (x_ : Unit) => .int .i64 r) (fs := fun r x_ => []) Try.func116 rfl Try.ntmps116 rfl ((SH.start hA).start_rd rfl hp0) rfl ?_ hr
  unfold F_slices_IndexFunc_Simpl_Rewrite_impl_Rewrite
  refine J_seq ?_
  refine J_region ?_
  refine JL_q (wants_none rfl) rfl (ex_assign rfl) ?_
  refine JL_nil ?_
  refine N_then ?_
  refine J_seq ?_
  refine J_seq ?_
  refine J_region ?_
  refine JL_q (wants_none rfl) rfl (ex_move rfl) ?_
  refine JL_q (wants_none rfl) rfl (ex_len_rd 0 Try.underlying42 rfl rfl) ?_
  refine JL_q (wants_none rfl) rfl (ex_move rfl) ?_
  refine JL_nil ?_
  refine N_then ?_
  refine J_loop' (S := Int) (G := Unit) (F_slices_IndexFunc_Simpl_Rewrite_impl_Rewrite_L1 p0 p1) (fun s1 _ => [(0, v0_), (1, v1_), (7, .int .i64 (p0.length : Int)), (8, .int .i64 s1)]) (fun s1 _ => [.rd v0_ p0]) 0 () ⟨rfl, rfl, rfl, rfl, trivial⟩ [0] rfl rfl (fun s1 g2 => ?_) (fun s1 g2 => ?_)
  · unfold F_slices_IndexFunc_Simpl_Rewrite_impl_Rewrite_L1
    refine J_seq ?_
    refine J_region ?_
    refine JL_q (wants_none rfl) rfl (ex_lss rfl rfl) ?_
    refine JL_nil ?_
    refine N_then ?_
    refine J_seq ?_
    refine J_if rfl (fun h3 => ?_) (fun h3 => ?_)
    · refine J_skip ?_
      refine N_then ?_
      refine J_seq ?_
      refine J_block ?_
      refine J_seq ?_
      refine J_region ?_
      refine JL_q (wants_none rfl) rfl (ex_move rfl) ?_
      refine JL_q (wants_none rfl) rfl (ex_assign rfl) ?_
      refine JL_nil ?_
      refine N_then ?_
      refine J_seq ?_
      refine J_region ?_
      refine JL_q (wants_none rfl) rfl (ex_move rfl) ?_
      refine JL_q (wants_none rfl) rfl (ex_move rfl) ?_
      refine JL_q (wants_none rfl) rfl (ex_move rfl) ?_
      refine JL_bnd fun y4 hy5 => ?_
      refine JL_st (wants_none rfl) rfl (st_index 0 Try.underlying42 ti_91 rfl rfl rfl hy5) (fun q6 => ?_)
      refine JL_st (wants_none rfl) rfl (st_load_pt_o 0 (GRewrite.opens _) ti_91 rfl rfl) (fun v7 => ?_)
      refine JL_bnd fun r8 hr9 => ?_
      refine JL_clo (wants_none rfl) rfl hp1 rfl rfl (fun w hh => (GRewrite.rdmk (hh.rd0 0 rfl) (hh.rd0 1 rfl))) hr9 ?_
      refine JL_nil ?_
      refine N_then ?_
      refine J_if rfl (fun h10 => ?_) (fun h10 => ?_)
      · refine J_seq ?_
        refine J_region ?_
        refine JL_q (wants_none rfl) rfl (ex_move rfl) ?_
        refine JL_q (wants_none rfl) rfl (ex_assign rfl) ?_
        refine JL_nil ?_
        refine N_then ?_
        refine J_ret ?_
        refine N_block_ret ?_
        refine N_then_ret ?_
        refine N_round_ret ?_
        refine N_then_ret ?_
        exact N_ret1 rfl (rv_tmp rfl) (fun w hh => ⟨(), rfl, hh.sel [] rfl⟩)
      · refine J_skip ?_
        refine N_block ?_
        refine N_then ?_
        refine J_region ?_
        refine JL_q (wants_none rfl) rfl (ex_add rfl rfl) ?_
        refine JL_q (wants_none rfl) rfl (ex_move rfl) ?_
        refine JL_nil ?_
        exact N_next' () ⟨rfl, rfl, rfl, rfl, trivial⟩ [3] rfl rfl
    · refine J_exit ?_
      refine N_then_exit ?_
      exact N_break' () ⟨rfl, rfl, rfl, rfl, trivial⟩ [0] rfl rfl
  · refine N_then ?_
    refine J_seq ?_
    refine J_region ?_
    refine JL_q (wants_none rfl) rfl (ex_assign rfl) ?_
    refine JL_nil ?_
    refine N_then ?_
    refine J_ret ?_
    exact N_ret1 rfl (rv_tmp rfl) (fun w hh => ⟨(), rfl, hh.sel [] rfl⟩)

set_option maxHeartbeats 40000000 in
theorem c_slices_ContainsFunc_Simpl_Rewrite_impl_Rewrite (A : Nat → Prop) (w : World) (hA : ∀ k, A k → k < w.heap.size) (v0_ : Value) (p0 : (List GRewrite)) (hp0 : Rd A w v0_ p0) (v1_ : Value) (p1 : (GRewrite → Option Bool)) (hp1 : Clo Try.prog w v1_ p1 .bool) (r : Bool) (hr : F_slices_ContainsFunc_Simpl_Rewrite_impl_Rewrite p0 p1 = some r) :
    Con Try.prog 93 [v0_, v1_] A w (fun x_ : Unit => .bool r) (fun x_ => []) := by
  refine Con_of (v := fun (r : Bool) (x_ : Unit) => .bool r) (fs := fun r x_ => []) Try.func93 rfl Try.ntmps93 rfl ((SH.start hA).start_rd rfl hp0) rfl ?_ hr
  unfold F_slices_ContainsFunc_Simpl_Rewrite_impl_Rewrite
  refine J_seq ?_
  refine J_region ?_
  refine JL_q (wants_none rfl) rfl (ex_assign rfl) ?_
  refine JL_nil ?_
  refine N_then ?_
  refine J_seq ?_
  refine J_region ?_
  refine JL_q (wants_none rfl) rfl (ex_move rfl) ?_
  refine JL_q (wants_none rfl) rfl (ex_move rfl) ?_
  refine JL_bnd fun r1 hr2 => ?_
  refine JL_call (wants_none rfl) rfl Try.call116 rfl (Ca_of0 fun w hh => c_slices_IndexFunc_Simpl_Rewrite_impl_Rewrite _ w (fun _ hk => hk.elim) _ _ (hh.rd0 0 rfl) _ _ (hp1.later hh.below) _ hr2) (fun _ => ?_)
  refine JL_q (wants_none rfl) rfl (ex_geq rfl rfl) ?_
  refine JL_q (wants_none rfl) rfl (ex_assign rfl) ?_
  refine JL_nil ?_
  refine N_then ?_
  refine J_ret ?_
  exact N_ret1 rfl (rv_tmp rfl) (fun w hh => ⟨(), rfl, hh.sel [] rfl⟩)

set_option maxHeartbeats 40000000 in
theorem c_slices_IndexFunc_SSint64_Sint64 (A : Nat → Prop) (w : World) (hA : ∀ k, A k → k < w.heap.size) (v0_ : Value) (p0 : (List (List Int))) (hp0 : Rd A w v0_ p0) (v1_ : Value) (p1 : ((List Int) → Option Bool)) (hp1 : Clo Try.prog w v1_ p1 .bool) (r : Int) (hr : F_slices_IndexFunc_SSint64_Sint64 p0 p1 = some r) :
    Con Try.prog 110 [v0_, v1_] A w (fun x_ : Unit => .int .i64 r) (fun x_ => []) := by
  refine Con_of (v := fun (r : Int) (x_ : Unit) => .int .i64 r) (fs := fun r x_ => []) Try.func110 rfl Try.ntmps110 rfl ((SH.start hA).start_rd rfl hp0) rfl ?_ hr
  unfold F_slices_IndexFunc_SSint64_Sint64
  refine J_seq ?_
  refine J_region ?_
  refine JL_q (wants_none rfl) rfl (ex_assign rfl) ?_
  refine JL_nil ?_
  refine N_then ?_
  refine J_seq ?_
  refine J_seq ?_
  refine J_region ?_
  refine JL_q (wants_none rfl) rfl (ex_move rfl) ?_
  refine JL_q (wants_none rfl) rfl (ex_len_rd 0 Try.underlying33 rfl rfl) ?_
  refine JL_q (wants_none rfl) rfl (ex_move rfl) ?_
  refine JL_nil ?_
  refine N_then ?_
  refine J_loop' (S := Int) (G := Unit) (F_slices_IndexFunc_SSint64_Sint64_L1 p0 p1) (fun s1 _ => [(0, v0_), (1, v1_), (7, .int .i64 (p0.length : Int)), (8, .int .i64 s1)]) (fun s1 _ => [.rd v0_ p0]) 0 () ⟨rfl, rfl, rfl, rfl, trivial⟩ [0] rfl rfl (fun s1 g2 => ?_) (fun s1 g2 => ?_)
  · unfold F_slices_IndexFunc_SSint64_Sint64_L1
    refine J_seq ?_
    refine J_region ?_
    refine JL_q (wants_none rfl) rfl (ex_lss rfl rfl) ?_
    refine JL_nil ?_
    refine N_then ?_
    refine J_seq ?_
    refine J_if rfl (fun h3 => ?_) (fun h3 => ?_)
    · refine J_skip ?_
      refine N_then ?_
      refine J_seq ?_
      refine J_block ?_
      refine J_seq ?_
      refine J_region ?_
      refine JL_q (wants_none rfl) rfl (ex_move rfl) ?_
      refine JL_q (wants_none rfl) rfl (ex_assign rfl) ?_
      refine JL_nil ?_
      refine N_then ?_
      refine J_seq ?_
      refine J_region ?_
      refine JL_q (wants_none rfl) rfl (ex_move rfl) ?_
      refine JL_q (wants_none rfl) rfl (ex_move rfl) ?_
      refine JL_q (wants_none rfl) rfl (ex_move rfl) ?_
      refine JL_bnd fun y4 hy5 => ?_
      refine JL_st (wants_none rfl) rfl (st_index 0 Try.underlying33 ti_23 rfl rfl rfl hy5) (fun q6 => ?_)
      refine JL_st (wants_none rfl) rfl (st_load_pt_o 0 (opens_sl _) ti_23 rfl rfl) (fun v7 => ?_)
      refine JL_bnd fun r8 hr9 => ?_
      refine JL_clo (wants_none rfl) rfl hp1 rfl rfl (fun w hh => (hh.rd0 0 rfl)) hr9 ?_
      refine JL_nil ?_
      refine N_then ?_
      refine J_if rfl (fun h10 => ?_) (fun h10 => ?_)
      · refine J_seq ?_
        refine J_region ?_
        refine JL_q (wants_none rfl) rfl (ex_move rfl) ?_
        refine JL_q (wants_none rfl) rfl (ex_assign rfl) ?_
        refine JL_nil ?_
        refine N_then ?_
        refine J_ret ?_
        refine N_block_ret ?_
        refine N_then_ret ?_
        refine N_round_ret ?_
        refine N_then_ret ?_
        exact N_ret1 rfl (rv_tmp rfl) (fun w hh => ⟨(), rfl, hh.sel [] rfl⟩)
      · refine J_skip ?_
        refine N_block ?_
        refine N_then ?_
        refine J_region ?_
        refine JL_q (wants_none rfl) rfl (ex_add rfl rfl) ?_
        refine JL_q (wants_none rfl) rfl (ex_move rfl) ?_
        refine JL_nil ?_
        exact N_next' () ⟨rfl, rfl, rfl, rfl, trivial⟩ [2] rfl rfl
    · refine J_exit ?_
      refine N_then_exit ?_
      exact N_break' () ⟨rfl, rfl, rfl, rfl, trivial⟩ [0] rfl rfl
  · refine N_then ?_
    refine J_seq ?_
    refine J_region ?_
    refine JL_q (wants_none rfl) rfl (ex_assign rfl) ?_
    refine JL_nil ?_
    refine N_then ?_
    refine J_ret ?_
    exact N_ret1 rfl (rv_tmp rfl) (fun w hh => ⟨(), rfl, hh.sel [] rfl⟩)

set_option maxHeartbeats 40000000 in
theorem c_slices_ContainsFunc_SSint64_Sint64 (A : Nat → Prop) (w : World) (hA : ∀ k, A k → k < w.heap.size) (v0_ : Value) (p0 : (List (List Int))) (hp0 : Rd A w v0_ p0) (v1_ : Value) (p1 : ((List Int) → Option Bool)) (hp1 : Clo Try.prog w v1_ p1 .bool) (r : Bool) (hr : F_slices_ContainsFunc_SSint64_Sint64 p0 p1 = some r) :
    Con Try.prog 108 [v0_, v1_] A w (fun x_ : Unit => .bool r) (fun x_ => []) := by
  refine Con_of (v := fun (r : Bool) (x_ : Unit) => .bool r) (fs := fun r x_ => []) Try.func108 rfl Try.ntmps108 rfl ((SH.start hA).start_rd rfl hp0) rfl ?_ hr
  unfold F_slices_ContainsFunc_SSint64_Sint64
  refine J_seq ?_
  refine J_region ?_
  refine JL_q (wants_none rfl) rfl (ex_assign rfl) ?_
  refine JL_nil ?_
  refine N_then ?_
  refine J_seq ?_
  refine J_region ?_
  refine JL_q (wants_none rfl) rfl (ex_move rfl) ?_
  refine JL_q (wants_none rfl) rfl (ex_move rfl) ?_
  refine JL_bnd fun r1 hr2 => ?_
  refine JL_call (wants_none rfl) rfl Try.call110 rfl (Ca_of0 fun w hh => c_slices_IndexFunc_SSint64_Sint64 _ w (fun _ hk => hk.elim) _ _ (hh.rd0 0 rfl) _ _ (hp1.later hh.below) _ hr2) (fun _ => ?_)
  refine JL_q (wants_none rfl) rfl (ex_geq rfl rfl) ?_
  refine JL_q (wants_none rfl) rfl (ex_assign rfl) ?_
  refine JL_nil ?_
  refine N_then ?_
  refine J_ret ?_
  exact N_ret1 rfl (rv_tmp rfl) (fun w hh => ⟨(), rfl, hh.sel [] rfl⟩)

set_option maxHeartbeats 40000000 in
theorem c_impl_allWithin (A : Nat → Prop) (w : World) (hA : ∀ k, A k → k < w.heap.size) (v0_ : Value) (p0 : (List Int)) (hp0 : Rd A w v0_ p0) (p1 : Int) (p2 : Int) (r : Bool) (hr : F_impl_allWithin p0 p1 p2 = some r) :
    Con Try.prog 117 [v0_, .int .i64 p1, .int .i64 p2] A w (fun x_ : Unit => .bool r) (fun x_ => []) := by
  refine Con_of (v := fun (r : Bool) (x_ : Unit) => .bool r) (fs := fun r x_ => []) Try.func117 rfl Try.ntmps117 rfl ((SH.start hA).start_rd rfl hp0) rfl ?_ hr
  unfold F_impl_allWithin
  refine J_seq ?_
  refine J_region ?_
  refine JL_q (wants_none rfl) rfl (ex_assign rfl) ?_
  refine JL_nil ?_
  refine N_then ?_
  refine J_seq ?_
  refine J_seq ?_
  refine J_region ?_
  refine JL_q (wants_none rfl) rfl (ex_move rfl) ?_
  refine JL_q (wants_none rfl) rfl (ex_len_rd 0 Try.underlying23 rfl rfl) ?_
  refine JL_q (wants_none rfl) rfl (ex_move rfl) ?_
  refine JL_nil ?_
  refine N_then ?_
  refine J_loop' (S := Int) (G := Unit) (F_impl_allWithin_L1 p0 p1 p2) (fun s1 _ => [(1, .int .i64 p1), (2, .int .i64 p2), (9, v0_), (10, .int .i64 (p0.length : Int)), (11, .int .i64 s1)]) (fun s1 _ => [.rd v0_ p0]) 0 () ⟨rfl, rfl, rfl, rfl, rfl, trivial⟩ [0] rfl rfl (fun s1 g2 => ?_) (fun s1 g2 => ?_)
  · unfold F_impl_allWithin_L1
    refine J_seq ?_
    refine J_region ?_
    refine JL_q (wants_none rfl) rfl (ex_lss rfl rfl) ?_
    refine JL_nil ?_
    refine N_then ?_
    refine J_seq ?_
    refine J_if rfl (fun h3 => ?_) (fun h3 => ?_)
    · refine J_skip ?_
      refine N_then ?_
      refine J_seq ?_
      refine J_block ?_
      refine J_seq ?_
      refine J_region ?_
      refine JL_bnd fun y4 hy5 => ?_
      refine JL_st (wants_none rfl) rfl (st_index 0 Try.underlying23 ti_2 rfl rfl rfl hy5) (fun q6 => ?_)
      refine JL_st (wants_none rfl) rfl (st_load_pt_o 0 (opens_int _) ti_2 rfl rfl) (fun _ => ?_)
      refine JL_q (wants_none rfl) rfl (ex_assign rfl) ?_
      refine JL_nil ?_
      refine N_then ?_
      refine J_seq ?_
      refine J_region ?_
      refine JL_q (wants_none rfl) rfl (ex_move rfl) ?_
      refine JL_q (wants_none rfl) rfl (ex_move rfl) ?_
      refine JL_q (wants_none rfl) rfl (ex_move rfl) ?_
      refine JL_bnd fun r8 hr9 => ?_
      refine JL_call (wants_none rfl) rfl Try.call85 rfl (Ca_of0 fun w hh => c_impl_within _ w (fun _ hk => hk.elim) _ _ _ _ hr9) (fun _ => ?_)
      refine JL_q (wants_none rfl) rfl (ex_not rfl) ?_
      refine JL_nil ?_
      refine N_then ?_
      refine J_if rfl (fun h10 => ?_) (fun h10 => ?_)
      · refine J_seq ?_
        refine J_region ?_
        refine JL_q (wants_none rfl) rfl (ex_assign rfl) ?_
        refine JL_nil ?_
        refine N_then ?_
        refine J_ret ?_
        refine N_block_ret ?_
        refine N_then_ret ?_
        refine N_round_ret ?_
        refine N_then_ret ?_
        exact N_ret1 rfl (rv_tmp rfl) (fun w hh => ⟨(), rfl, hh.sel [] rfl⟩)
      · refine J_skip ?_
        refine N_block ?_
        refine N_then ?_
        refine J_region ?_
        refine JL_q (wants_none rfl) rfl (ex_add rfl rfl) ?_
        refine JL_q (wants_none rfl) rfl (ex_move rfl) ?_
        refine JL_nil ?_
        exact N_next' () ⟨rfl, rfl, rfl, rfl, rfl, trivial⟩ [1] rfl rfl
    · refine J_exit ?_
      refine N_then_exit ?_
      exact N_break' () ⟨rfl, rfl, rfl, rfl, rfl, trivial⟩ [0] rfl rfl
  · refine N_then ?_
    refine J_seq ?_
    refine J_region ?_
    refine JL_q (wants_none rfl) rfl (ex_assign rfl) ?_
    refine JL_nil ?_
    refine N_then ?_
    refine J_ret ?_
    exact N_ret1 rfl (rv_tmp rfl) (fun w hh => ⟨(), rfl, hh.sel [] rfl⟩)

set_option maxHeartbeats 40000000 in
theorem c_impl_isLetters (A : Nat → Prop) (w : World) (hA : ∀ k, A k → k < w.heap.size) (v0_ : Value) (p0 : (List Int)) (hp0 : Rd A w v0_ p0) (r : Bool) (hr : F_impl_isLetters p0 = some r) :
    Con Try.prog 95 [v0_] A w (fun x_ : Unit => .bool r) (fun x_ => []) := by
  refine Con_of (v := fun (r : Bool) (x_ : Unit) => .bool r) (fs := fun r x_ => []) Try.func95 rfl Try.ntmps95 rfl ((SH.start hA).start_rd rfl hp0) rfl ?_ hr
  unfold F_impl_isLetters
  refine J_seq ?_
  refine J_region ?_
  refine JL_q (wants_none rfl) rfl (ex_assign rfl) ?_
  refine JL_nil ?_
  refine N_then ?_
  refine J_seq ?_
  refine J_region ?_
  refine JL_q (wants_none rfl) rfl (ex_move rfl) ?_
  refine JL_bnd fun r1 hr2 => ?_
  refine JL_call (wants_none rfl) rfl Try.call117 rfl (Ca_of0 fun w hh => c_impl_allWithin _ w (fun _ hk => hk.elim) _ _ (hh.rd0 0 rfl) _ _ _ hr2) (fun _ => ?_)
  refine JL_q (wants_none rfl) rfl (ex_assign rfl) ?_
  refine JL_nil ?_
  refine N_then ?_
  refine J_ret ?_
  exact N_ret1 rfl (rv_tmp rfl) (fun w hh => ⟨(), rfl, hh.sel [] rfl⟩)

set_option maxHeartbeats 40000000 in
theorem c_impl_IsWord (A : Nat → Prop) (w : World) (hA : ∀ k, A k → k < w.heap.size) (v0_ : Value) (p0 : (List Int)) (hp0 : Rd A w v0_ p0) (r : Bool) (hr : F_impl_IsWord p0 = some r) :
    Con Try.prog 62 [v0_] A w (fun x_ : Unit => .bool r) (fun x_ => []) := by
  refine Con_of (v := fun (r : Bool) (x_ : Unit) => .bool r) (fs := fun r x_ => []) Try.func62 rfl Try.ntmps62 rfl ((SH.start hA).start_rd rfl hp0) rfl ?_ hr
  unfold F_impl_IsWord
  refine J_seq ?_
  refine J_region ?_
  refine JL_q (wants_none rfl) rfl (ex_assign rfl) ?_
  refine JL_nil ?_
  refine N_then ?_
  refine J_seq ?_
  refine J_region ?_
  refine JL_q (wants_none rfl) rfl (ex_move rfl) ?_
  refine JL_q (wants_none rfl) rfl (ex_len_rd 0 Try.underlying23 rfl rfl) ?_
  refine JL_q (wants_none rfl) rfl (ex_leq rfl rfl) ?_
  refine JL_q (wants_none rfl) rfl (ex_move rfl) ?_
  refine JL_cond (fun h1 => ?_) (fun h1 => ?_)
  · refine JL_q (wants_some rfl rfl rfl h1) rfl (ex_move rfl) ?_
    refine JL_bnd fun r2 hr3 => ?_
    refine JL_call (wants_some rfl rfl rfl h1) rfl Try.call95 rfl (Ca_of0 fun w hh => c_impl_isLetters _ w (fun _ hk => hk.elim) _ _ (hh.rd0 0 rfl) _ hr3) (fun _ => ?_)
    refine JL_q (wants_none rfl) rfl (ex_pick_true rfl h1 rfl) ?_
    refine JL_q (wants_none rfl) rfl (ex_assign rfl) ?_
    refine JL_nil ?_
    refine N_then ?_
    refine J_ret ?_
    exact N_ret1 rfl (rv_tmp rfl) (fun w hh => ⟨(), rfl, hh.sel [] rfl⟩)
  · refine JL_passed rfl rfl rfl h1 ?_
    refine JL_passed rfl rfl rfl h1 ?_
    refine JL_q (wants_none rfl) rfl (ex_pick_false rfl h1 rfl) ?_
    refine JL_q (wants_none rfl) rfl (ex_assign rfl) ?_
    refine JL_nil ?_
    refine N_then ?_
    refine J_ret ?_
    exact N_ret1 rfl (rv_tmp rfl) (fun w hh => ⟨(), rfl, hh.sel [] rfl⟩)

set_option maxHeartbeats 40000000 in
theorem c_impl_areWords_1 (A : Nat → Prop) (w : World) (hA : ∀ k, A k → k < w.heap.size) (v0_ : Value) (p0 : (List Int)) (hp0 : Rd A w v0_ p0) (r : Bool) (hr : F_impl_areWords_1 p0 = some r) :
    Con Try.prog 109 [v0_] A w (fun x_ : Unit => .bool r) (fun x_ => []) := by
  refine Con_of (v := fun (r : Bool) (x_ : Unit) => .bool r) (fs := fun r x_ => []) Try.func109 rfl Try.ntmps109 rfl ((SH.start hA).start_rd rfl hp0) rfl ?_ hr
  unfold F_impl_areWords_1
  refine J_seq ?_
  refine J_region ?_
  refine JL_q (wants_none rfl) rfl (ex_assign rfl) ?_
  refine JL_nil ?_
  refine N_then ?_
  refine J_seq ?_
  refine J_region ?_
  refine JL_q (wants_none rfl) rfl (ex_move rfl) ?_
  refine JL_bnd fun r1 hr2 => ?_
  refine JL_call (wants_none rfl) rfl Try.call62 rfl (Ca_of0 fun w hh => c_impl_IsWord _ w (fun _ hk => hk.elim) _ _ (hh.rd0 0 rfl) _ hr2) (fun _ => ?_)
  refine JL_q (wants_none rfl) rfl (ex_not rfl) ?_
  refine JL_q (wants_none rfl) rfl (ex_assign rfl) ?_
  refine JL_nil ?_
  refine N_then ?_
  refine J_ret ?_
  exact N_ret1 rfl (rv_tmp rfl) (fun w hh => ⟨(), rfl, hh.sel [] rfl⟩)

set_option maxHeartbeats 40000000 in
theorem c_impl_areWords (A : Nat → Prop) (w : World) (hA : ∀ k, A k → k < w.heap.size) (v0_ : Value) (p0 : (List (List Int))) (hp0 : Rd A w v0_ p0) (r : Bool) (hr : F_impl_areWords p0 = some r) :
    Con Try.prog 76 [v0_] A w (fun x_ : Unit => .bool r) (fun x_ => []) := by
  refine Con_of (v := fun (r : Bool) (x_ : Unit) => .bool r) (fs := fun r x_ => []) Try.func76 rfl Try.ntmps76 rfl ((SH.start hA).start_rd rfl hp0) rfl ?_ hr
  unfold F_impl_areWords
  refine J_seq ?_
  refine J_region ?_
  refine JL_q (wants_none rfl) rfl (ex_assign rfl) ?_
  refine JL_nil ?_
  refine N_then ?_
  refine J_seq ?_
  refine J_region ?_
  refine JL_q (wants_none rfl) rfl (ex_move rfl) ?_
  refine JL_bnd fun r1 hr2 => ?_
  refine JL_call (wants_none rfl) rfl Try.call108 rfl (Ca_of0 fun w hh => c_slices_ContainsFunc_SSint64_Sint64 _ w (fun _ hk => hk.elim) _ _ (hh.rd0 0 rfl) _ _ (Clo.mk (caps := []) Try.call109 (fun w_ hb_ v_ x_ r_ hrd_ hr_ => c_impl_areWords_1 nowhere w_ (fun _ hk => hk.elim) v_ x_ hrd_  _ hr_)) _ hr2) (fun _ => ?_)
  refine JL_q (wants_none rfl) rfl (ex_not rfl) ?_
  refine JL_q (wants_none rfl) rfl (ex_assign rfl) ?_
  refine JL_nil ?_
  refine N_then ?_
  refine J_ret ?_
  exact N_ret1 rfl (rv_tmp rfl) (fun w hh => ⟨(), rfl, hh.sel [] rfl⟩)

set_option maxHeartbeats 40000000 in
theorem c_impl_ValidRewrites_1 (A : Nat → Prop) (w : World) (hA : ∀ k, A k → k < w.heap.size) (v0_ : Value) (p0 : GRewrite) (hp0 : Rd A w v0_ p0) (r : Bool) (hr : F_impl_ValidRewrites_1 p0 = some r) :
    Con Try.prog 94 [v0_] A w (fun x_ : Unit => .bool r) (fun x_ => []) := by
  obtain ⟨v0_0, v0_1, rfl, hp0_0, hp0_1⟩ := GRewrite.open hp0
  refine Con_of (v := fun (r : Bool) (x_ : Unit) => .bool r) (fs := fun r x_ => []) Try.func94 rfl Try.ntmps94 rfl (((SH.start hA).start_rd rfl hp0_0).start_rd rfl hp0_1) rfl ?_ hr
  unfold F_impl_ValidRewrites_1
  refine J_seq ?_
  refine J_region ?_
  refine JL_st (wants_none rfl) rfl (st_box' rfl (fun w hh => (cv_aggs ⟨(hh.cv 1 rfl), (hh.cv 0 rfl), trivial⟩))) (fun b1 => ?_)
  refine JL_q (wants_none rfl) rfl (ex_assign rfl) ?_
  refine JL_nil ?_
  refine N_then ?_
  refine J_seq ?_
  refine J_region ?_
  refine JL_q (wants_none rfl) rfl (ex_fieldAddr fi_91_0 rfl rfl) ?_
  refine JL_q (wants_none rfl) rfl (ex_load_bx 0 ti_23 rfl rfl rfl) ?_
  refine JL_q (wants_none rfl) rfl (ex_fieldAddr fi_91_1 rfl rfl) ?_
  refine JL_q (wants_none rfl) rfl (ex_load_bx 0 ti_23 rfl rfl rfl) ?_
  refine JL_st (wants_none rfl) rfl (st_buildSlice (vs := [v0_0, v0_1]) ([p0.From, p0.To] : List (List Int)) Try.underlying33 ti_23 zi_23 rfl rfl rfl (fun w hh => ⟨(hh.rd 2 rfl), (hh.rd 1 rfl), trivial⟩)) (fun b2 => ?_)
  refine JL_bnd fun r3 hr4 => ?_
  refine JL_call (wants_none rfl) rfl Try.call76 rfl (Ca_of0 fun w hh => c_impl_areWords _ w (fun _ hk => hk.elim) _ _ (hh.ow0 0 rfl) _ hr4) (fun _ => ?_)
  refine JL_q (wants_none rfl) rfl (ex_not rfl) ?_
  refine JL_q (wants_none rfl) rfl (ex_move rfl) ?_
  refine JL_cond (fun h5 => ?_) (fun h5 => ?_)
  · refine JL_passed rfl rfl rfl h5 ?_
    refine JL_passed rfl rfl rfl h5 ?_
    refine JL_passed rfl rfl rfl h5 ?_
    refine JL_passed rfl rfl rfl h5 ?_
    refine JL_q (wants_none rfl) rfl (ex_pick_true rfl h5 rfl) ?_
    refine JL_q (wants_none rfl) rfl (ex_assign rfl) ?_
    refine JL_nil ?_
    refine N_then ?_
    refine J_ret ?_
    exact N_ret1 rfl (rv_tmp rfl) (fun w hh => ⟨(), rfl, hh.sel [] rfl⟩)
  · refine JL_q (wants_some rfl rfl rfl h5) rfl (ex_fieldAddr fi_91_0 rfl rfl) ?_
    refine JL_q (wants_some rfl rfl rfl h5) rfl (ex_load_bx 1 ti_23 rfl rfl rfl) ?_
    refine JL_q (wants_some rfl rfl rfl h5) rfl (ex_len_rd 3 Try.underlying23 rfl rfl) ?_
    refine JL_q (wants_some rfl rfl rfl h5) rfl (ex_eql rfl rfl) ?_
    refine JL_q (wants_none rfl) rfl (ex_pick_false rfl h5 rfl) ?_
    refine JL_q (wants_none rfl) rfl (ex_assign rfl) ?_
    refine JL_nil ?_
    refine N_then ?_
    refine J_ret ?_
    exact N_ret1 rfl (rv_tmp rfl) (fun w hh => ⟨(), rfl, hh.sel [] rfl⟩)

set_option maxHeartbeats 40000000 in
theorem c_impl_ValidRewrites (A : Nat → Prop) (w : World) (hA : ∀ k, A k → k < w.heap.size) (v0_ : Value) (p0 : (List GRewrite)) (hp0 : Rd A w v0_ p0) (r : Bool) (hr : F_impl_ValidRewrites p0 = some r) :
    Con Try.prog 61 [v0_] A w (fun x_ : Unit => .bool r) (fun x_ => []) := by
  refine Con_of (v := fun (r : Bool) (x_ : Unit) => .bool r) (fs := fun r x_ => []) Try.func61 rfl Try.ntmps61 rfl ((SH.start hA).start_rd rfl hp0) rfl ?_ hr
  unfold F_impl_ValidRewrites
  refine J_seq ?_
  refine J_region ?_
  refine JL_q (wants_none rfl) rfl (ex_assign rfl) ?_
  refine JL_nil ?_
  refine N_then ?_
  refine J_seq ?_
  refine J_region ?_
  refine JL_q (wants_none rfl) rfl (ex_move rfl) ?_
  refine JL_bnd fun r1 hr2 => ?_
  refine JL_call (wants_none rfl) rfl Try.call92 rfl (Ca_of0 fun w hh => c_impl_size_impl_Rewrite _ w (fun _ hk => hk.elim) _ _ (hh.rd0 0 rfl) _ hr2) (fun _ => ?_)
  refine JL_bnd fun r3 hr4 => ?_
  refine JL_call (wants_none rfl) rfl Try.call85 rfl (Ca_of0 fun w hh => c_impl_within _ w (fun _ hk => hk.elim) _ _ _ _ hr4) (fun _ => ?_)
  refine JL_q (wants_none rfl) rfl (ex_move rfl) ?_
  refine JL_cond (fun h5 => ?_) (fun h5 => ?_)
  · refine JL_q (wants_some rfl rfl rfl h5) rfl (ex_move rfl) ?_
    refine JL_bnd fun r6 hr7 => ?_
    refine JL_call (wants_some rfl rfl rfl h5) rfl Try.call93 rfl (Ca_of0 fun w hh => c_slices_ContainsFunc_Simpl_Rewrite_impl_Rewrite _ w (fun _ hk => hk.elim) _ _ (hh.rd0 0 rfl) _ _ (Clo.mk (caps := []) Try.call94 (fun w_ hb_ v_ x_ r_ hrd_ hr_ => c_impl_ValidRewrites_1 nowhere w_ (fun _ hk => hk.elim) v_ x_ hrd_  _ hr_)) _ hr7) (fun _ => ?_)
    refine JL_q (wants_some rfl rfl rfl h5) rfl (ex_not rfl) ?_
    refine JL_q (wants_none rfl) rfl (ex_pick_true rfl h5 rfl) ?_
    refine JL_q (wants_none rfl) rfl (ex_assign rfl) ?_
    refine JL_nil ?_
    refine N_then ?_
    refine J_ret ?_
    exact N_ret1 rfl (rv_tmp rfl) (fun w hh => ⟨(), rfl, hh.sel [] rfl⟩)
  · refine JL_passed rfl rfl rfl h5 ?_
    refine JL_passed rfl rfl rfl h5 ?_
    refine JL_passed rfl rfl rfl h5 ?_
    refine JL_q (wants_none rfl) rfl (ex_pick_false rfl h5 rfl) ?_
    refine JL_q (wants_none rfl) rfl (ex_assign rfl) ?_
    refine JL_nil ?_
    refine N_then ?_
    refine J_ret ?_
    exact N_ret1 rfl (rv_tmp rfl) (fun w hh => ⟨(), rfl, hh.sel [] rfl⟩)

set_option maxHeartbeats 40000000 in
theorem c_impl_budgetOk (A : Nat → Prop) (w : World) (hA : ∀ k, A k → k < w.heap.size) (p0 : Int) (r : Bool) (hr : F_impl_budgetOk p0 = some r) :
    Con Try.prog 86 [.int .i64 p0] A w (fun x_ : Unit => .bool r) (fun x_ => []) := by
  refine Con_of (v := fun (r : Bool) (x_ : Unit) => .bool r) (fs := fun r x_ => []) Try.func86 rfl Try.ntmps86 rfl (SH.start hA) rfl ?_ hr
  unfold F_impl_budgetOk
  refine J_seq ?_
  refine J_region ?_
  refine JL_q (wants_none rfl) rfl (ex_assign rfl) ?_
  refine JL_nil ?_
  refine N_then ?_
  refine J_seq ?_
  refine J_region ?_
  refine JL_q (wants_none rfl) rfl (ex_move rfl) ?_
  refine JL_bnd fun r1 hr2 => ?_
  refine JL_call (wants_none rfl) rfl Try.call85 rfl (Ca_of0 fun w hh => c_impl_within _ w (fun _ hk => hk.elim) _ _ _ _ hr2) (fun _ => ?_)
  refine JL_q (wants_none rfl) rfl (ex_assign rfl) ?_
  refine JL_nil ?_
  refine N_then ?_
  refine J_ret ?_
  exact N_ret1 rfl (rv_tmp rfl) (fun w hh => ⟨(), rfl, hh.sel [] rfl⟩)

set_option maxHeartbeats 40000000 in
theorem c_impl_searchCode (A : Nat → Prop) (w : World) (hA : ∀ k, A k → k < w.heap.size) (v0_ : Value) (p0 : (List GRewrite)) (hp0 : Rd A w v0_ p0) (p1 : Int) (v2_ : Value) (p2 : (List (List Int))) (hp2 : Rd A w v2_ p2) (r : Int) (hr : F_impl_searchCode p0 p1 p2 = some r) :
    Con Try.prog 57 [v0_, .int .i64 p1, v2_] A w (fun x_ : Unit => .int .i64 r) (fun x_ => []) := by
  refine Con_of (v := fun (r : Int) (x_ : Unit) => .int .i64 r) (fs := fun r x_ => []) Try.func57 rfl Try.ntmps57 rfl (((SH.start hA).start_rd rfl hp0).start_rd rfl hp2) rfl ?_ hr
  unfold F_impl_searchCode
  refine J_seq ?_
  refine J_region ?_
  refine JL_q (wants_none rfl) rfl (ex_assign rfl) ?_
  refine JL_nil ?_
  refine N_then ?_
  refine J_seq ?_
  refine J_seq ?_
  refine J_region ?_
  refine JL_q (wants_none rfl) rfl (ex_move rfl) ?_
  refine JL_bnd fun r1 hr2 => ?_
  refine JL_call (wants_none rfl) rfl Try.call61 rfl (Ca_of0 fun w hh => c_impl_ValidRewrites _ w (fun _ hk => hk.elim) _ _ (hh.rd0 1 rfl) _ hr2) (fun _ => ?_)
  refine JL_q (wants_none rfl) rfl (ex_not rfl) ?_
  refine JL_q (wants_none rfl) rfl (ex_move rfl) ?_
  refine JL_cond (fun h3 => ?_) (fun h3 => ?_)
  · refine JL_passed rfl rfl rfl h3 ?_
    refine JL_passed rfl rfl rfl h3 ?_
    refine JL_passed rfl rfl rfl h3 ?_
    refine JL_q (wants_none rfl) rfl (ex_pick_true rfl h3 rfl) ?_
    refine JL_nil ?_
    refine N_then ?_
    refine J_if_true rfl rfl ?_
    refine J_seq ?_
    refine J_region ?_
    refine JL_q (wants_none rfl) rfl (ex_assign rfl) ?_
    refine JL_nil ?_
    refine N_then ?_
    refine J_ret ?_
    refine N_then_ret ?_
    exact N_ret1 rfl (rv_tmp rfl) (fun w hh => ⟨(), rfl, hh.sel [] rfl⟩)
  · refine JL_q (wants_some rfl rfl rfl h3) rfl (ex_move rfl) ?_
    refine JL_bnd fun r4 hr5 => ?_
    refine JL_call (wants_some rfl rfl rfl h3) rfl Try.call76 rfl (Ca_of0 fun w hh => c_impl_areWords _ w (fun _ hk => hk.elim) _ _ (hh.rd0 0 rfl) _ hr5) (fun _ => ?_)
    refine JL_q (wants_some rfl rfl rfl h3) rfl (ex_not rfl) ?_
    refine JL_q (wants_none rfl) rfl (ex_pick_false rfl h3 rfl) ?_
    refine JL_nil ?_
    refine N_then ?_
    refine J_if rfl (fun h6 => ?_) (fun h6 => ?_)
    · refine J_seq ?_
      refine J_region ?_
      refine JL_q (wants_none rfl) rfl (ex_assign rfl) ?_
      refine JL_nil ?_
      refine N_then ?_
      refine J_ret ?_
      refine N_then_ret ?_
      exact N_ret1 rfl (rv_tmp rfl) (fun w hh => ⟨(), rfl, hh.sel [] rfl⟩)
    · refine J_skip ?_
      refine N_then ?_
      refine J_seq ?_
      refine J_seq ?_
      refine J_region ?_
      refine JL_q (wants_none rfl) rfl (ex_move rfl) ?_
      refine JL_bnd fun r7 hr8 => ?_
      refine JL_call (wants_none rfl) rfl Try.call86 rfl (Ca_of0 fun w hh => c_impl_budgetOk _ w (fun _ hk => hk.elim) _ _ hr8) (fun _ => ?_)
      refine JL_q (wants_none rfl) rfl (ex_not rfl) ?_
      refine JL_nil ?_
      refine N_then ?_
      refine J_if rfl (fun h9 => ?_) (fun h9 => ?_)
      · refine J_seq ?_
        refine J_region ?_
        refine JL_q (wants_none rfl) rfl (ex_assign rfl) ?_
        refine JL_nil ?_
        refine N_then ?_
        refine J_ret ?_
        refine N_then_ret ?_
        exact N_ret1 rfl (rv_tmp rfl) (fun w hh => ⟨(), rfl, hh.sel [] rfl⟩)
      · refine J_skip ?_
        refine N_then ?_
        refine J_seq ?_
        refine J_region ?_
        refine JL_q (wants_none rfl) rfl (ex_assign rfl) ?_
        refine JL_nil ?_
        refine N_then ?_
        refine J_ret ?_
        exact N_ret1 rfl (rv_tmp rfl) (fun w hh => ⟨(), rfl, hh.sel [] rfl⟩)

set_option maxHeartbeats 40000000 in
theorem c_slices_Clone_Sint64_int64 (A : Nat → Prop) (w : World) (hA : ∀ k, A k → k < w.heap.size) (v0_ : Value) (p0 : (List Int)) (hp0 : Rd A w v0_ p0) (r : (List Int)) (hr : F_slices_Clone_Sint64_int64 p0 = some r) :
    Con Try.prog 51 [v0_] A w (fun x_ : Value => x_) (fun x_ => [.ow 2 x_ r]) := by
  refine Con_of (v := fun (r : (List Int)) (x_ : Value) => x_) (fs := fun r x_ => [.ow 2 x_ r]) Try.func51 rfl Try.ntmps51 rfl ((SH.start hA).start_rd rfl hp0) rfl ?_ hr
  unfold F_slices_Clone_Sint64_int64
  refine J_seq ?_
  refine J_region ?_
  refine JL_q (wants_none rfl) rfl (ex_assign rfl) ?_
  refine JL_nil ?_
  refine N_then ?_
  refine J_seq ?_
  refine J_seq ?_
  refine J_region ?_
  refine JL_q (wants_none rfl) rfl (ex_move rfl) ?_
  refine JL_eqnil 0 Try.underlying23 rfl rfl (wants_none rfl) rfl (fun hx1 => ?_) ?_
  · refine JL_conv (E' := (some ([] : (List Int)))) (by rw [hx1]; rfl) ?_
    refine JL_nil ?_
    refine N_then ?_
    refine J_if_true rfl rfl ?_
    refine J_seq ?_
    refine J_region ?_
    refine JL_q (wants_none rfl) rfl (ex_assign rfl) ?_
    refine JL_nil ?_
    refine N_then ?_
    refine J_ret ?_
    refine N_then_ret ?_
    refine N_ctx (fun w hh => SH.ow_nil (α := Int) 2 hh) ?_
    exact N_ret1 rfl (rv_tmp rfl) (fun w hh => ⟨(.slice none 0 0 : Value), rfl, hh.sel [0] rfl⟩)
  · refine JL_nil ?_
    refine N_then ?_
    refine J_if_false rfl rfl ?_
    refine J_skip ?_
    refine N_then ?_
    refine J_seq ?_
    refine J_region ?_
    refine JL_st (wants_none rfl) rfl (st_buildSlice (vs := []) ([] : List Int) Try.underlying23 ti_2 zi_2 rfl rfl rfl (fun w hh => trivial)) (fun b2 => ?_)
    refine JL_q (wants_none rfl) rfl (ex_move rfl) ?_
    refine JL_bnd fun z3 hz4 => ?_
    refine JL_st (wants_none rfl) rfl (st_append 0 Try.underlying23 ti_2 zi_2 rfl bi_2 rfl rfl rfl rfl (fun w hh => hh.src_rd 1 rfl) hz4) (fun v5 => ?_)
    refine JL_q (wants_none rfl) rfl (ex_assign rfl) ?_
    refine JL_nil ?_
    refine N_then ?_
    refine J_ret ?_
    exact N_ret1 rfl (rv_tmp rfl) (fun w hh => ⟨v5, rfl, hh.sel [0] rfl⟩)

set_option maxHeartbeats 40000000 in
theorem c_impl_keyOf (A : Nat → Prop) (w : World) (hA : ∀ k, A k → k < w.heap.size) (v0_ : Value) (p0 : (List Int)) (hp0 : Rd A w v0_ p0) (r : ByteArray) (hr : F_impl_keyOf p0 = some r) :
    Con Try.prog 59 [v0_] A w (fun x_ : Unit => .string r) (fun x_ => []) := by
  refine Con_of (v := fun (r : ByteArray) (x_ : Unit) => .string r) (fs := fun r x_ => []) Try.func59 rfl Try.ntmps59 rfl ((SH.start hA).start_rd rfl hp0) rfl ?_ hr
  unfold F_impl_keyOf
  refine J_seq ?_
  refine J_region ?_
  refine JL_q (wants_none rfl) rfl (ex_assign rfl) ?_
  refine JL_nil ?_
  refine N_then ?_
  refine J_seq ?_
  refine J_region ?_
  refine JL_q (wants_none rfl) rfl (ex_move rfl) ?_
  refine JL_q (wants_none rfl) rfl (ex_len_rd 0 Try.underlying23 rfl rfl) ?_
  refine JL_bnd fun z1 hz2 => ?_
  refine JL_st (wants_none rfl) rfl (st_make (α := (Ik .u8)) Try.underlying40 ti_5 zi_5 bi_5 rfl (fun _ _ => zero_ik) rfl hz2) (fun b3 => ?_)
  refine JL_q (wants_none rfl) rfl (ex_assign rfl) ?_
  refine JL_nil ?_
  refine N_then ?_
  refine J_seq ?_
  refine J_seq ?_
  refine J_region ?_
  refine JL_q (wants_none rfl) rfl (ex_move rfl) ?_
  refine JL_q (wants_none rfl) rfl (ex_len_rd 1 Try.underlying23 rfl rfl) ?_
  refine JL_q (wants_none rfl) rfl (ex_move rfl) ?_
  refine JL_nil ?_
  refine N_then ?_
  refine J_loop' (S := (List (Ik .u8)) × Int) (G := Unit) (F_impl_keyOf_L1 p0) (fun s4 _ => [(3, (.slice (some ⟨b3, 0, none⟩) z1.length z1.length)), (9, v0_), (10, .int .i64 (p0.length : Int)), (11, .int .i64 s4.2)]) (fun s4 _ => [.ow 5 (.slice (some ⟨b3, 0, none⟩) z1.length z1.length) s4.1, .rd v0_ p0]) (z1, 0) () ⟨rfl, rfl, rfl, rfl, trivial⟩ [0, 1] rfl rfl (fun s4 g5 => ?_) (fun s4 g5 => ?_)
  · unfold F_impl_keyOf_L1
    refine J_seq ?_
    refine J_region ?_
    refine JL_q (wants_none rfl) rfl (ex_lss rfl rfl) ?_
    refine JL_nil ?_
    refine N_then ?_
    refine J_seq ?_
    refine J_if rfl (fun h6 => ?_) (fun h6 => ?_)
    · refine J_skip ?_
      refine N_then ?_
      refine J_seq ?_
      refine J_block ?_
      refine J_seq ?_
      refine J_region ?_
      refine JL_q (wants_none rfl) rfl (ex_move rfl) ?_
      refine JL_bnd fun y7 hy8 => ?_
      refine JL_st (wants_none rfl) rfl (st_index 1 Try.underlying23 ti_2 rfl rfl rfl hy8) (fun q9 => ?_)
      refine JL_st (wants_none rfl) rfl (st_load_pt_o 0 (opens_int _) ti_2 rfl rfl) (fun _ => ?_)
      refine JL_q (wants_none rfl) rfl (ex_assign rfl) ?_
      refine JL_q (wants_none rfl) rfl (ex_assign rfl) ?_
      refine JL_nil ?_
      refine N_then ?_
      refine J_region ?_
      refine JL_q (wants_none rfl) rfl (ex_move rfl) ?_
      refine JL_q (wants_none rfl) rfl (ex_move rfl) ?_
      refine JL_q (wants_none rfl) rfl (ex_move rfl) ?_
      refine JL_q (wants_none rfl) rfl (ex_conv_ik Try.underlying2 Try.underlying5 rfl) ?_
      refine JL_bnd fun y11 hy12 => ?_
      refine JL_q (wants_none rfl) rfl (ex_index_ow 1 Try.underlying40 ti_5 rfl rfl rfl hy12) ?_
      refine JL_sk (wants_none rfl) (sk_store_ow 1 ti_5 rfl rfl rfl hy12 (fun w hh => (Rd.mk_ik _ _ _))) ?_
      refine JL_nil ?_
      refine N_block ?_
      refine N_then ?_
      refine J_region ?_
      refine JL_q (wants_none rfl) rfl (ex_add rfl rfl) ?_
      refine JL_q (wants_none rfl) rfl (ex_move rfl) ?_
      refine JL_nil ?_
      exact N_next' () ⟨rfl, rfl, rfl, rfl, trivial⟩ [1, 2] rfl rfl
    · refine J_exit ?_
      refine N_then_exit ?_
      exact N_break' () ⟨rfl, rfl, rfl, rfl, trivial⟩ [0, 1] rfl rfl
  · refine N_then ?_
    refine J_seq ?_
    refine J_region ?_
    refine JL_q (wants_none rfl) rfl (ex_move rfl) ?_
    refine JL_q (wants_none rfl) rfl (ex_str Try.underlying40 Try.underlying5 Try.underlying9 rfl (fun w hh => (hh.ow0 0 rfl))) ?_
    refine JL_q (wants_none rfl) rfl (ex_assign rfl) ?_
    refine JL_nil ?_
    refine N_then ?_
    refine J_ret ?_
    exact N_ret1 rfl (rv_tmp rfl) (fun w hh => ⟨(), rfl, hh.sel [] rfl⟩)

set_option maxHeartbeats 40000000 in
theorem c_slices_Equal_Sint64_int64 (A : Nat → Prop) (w : World) (hA : ∀ k, A k → k < w.heap.size) (v0_ : Value) (p0 : (List Int)) (hp0 : Rd A w v0_ p0) (v1_ : Value) (p1 : (List Int)) (hp1 : Rd A w v1_ p1) (r : Bool) (hr : F_slices_Equal_Sint64_int64 p0 p1 = some r) :
    Con Try.prog 106 [v0_, v1_] A w (fun x_ : Unit => .bool r) (fun x_ => []) := by
  refine Con_of (v := fun (r : Bool) (x_ : Unit) => .bool r) (fs := fun r x_ => []) Try.func106 rfl Try.ntmps106 rfl (((SH.start hA).start_rd rfl hp0).start_rd rfl hp1) rfl ?_ hr
  unfold F_slices_Equal_Sint64_int64
  refine J_seq ?_
  refine J_region ?_
  refine JL_q (wants_none rfl) rfl (ex_assign rfl) ?_
  refine JL_nil ?_
  refine N_then ?_
  refine J_seq ?_
  refine J_seq ?_
  refine J_region ?_
  refine JL_q (wants_none rfl) rfl (ex_move rfl) ?_
  refine JL_q (wants_none rfl) rfl (ex_len_rd 1 Try.underlying23 rfl rfl) ?_
  refine JL_q (wants_none rfl) rfl (ex_move rfl) ?_
  refine JL_q (wants_none rfl) rfl (ex_len_rd 0 Try.underlying23 rfl rfl) ?_
  refine JL_q (wants_none rfl) rfl (ex_neq rfl rfl) ?_
  refine JL_nil ?_
  refine N_then ?_
  refine J_if rfl (fun h1 => ?_) (fun h1 => ?_)
  · refine J_seq ?_
    refine J_region ?_
    refine JL_q (wants_none rfl) rfl (ex_assign rfl) ?_
    refine JL_nil ?_
    refine N_then ?_
    refine J_ret ?_
    refine N_then_ret ?_
    exact N_ret1 rfl (rv_tmp rfl) (fun w hh => ⟨(), rfl, hh.sel [] rfl⟩)
  · refine J_skip ?_
    refine N_then ?_
    refine J_seq ?_
    refine J_seq ?_
    refine J_region ?_
    refine JL_q (wants_none rfl) rfl (ex_move rfl) ?_
    refine JL_q (wants_none rfl) rfl (ex_len_rd 1 Try.underlying23 rfl rfl) ?_
    refine JL_q (wants_none rfl) rfl (ex_move rfl) ?_
    refine JL_nil ?_
    refine N_then ?_
    refine J_loop' (S := Int) (G := Unit) (F_slices_Equal_Sint64_int64_L1 p0 p1) (fun s2 _ => [(0, v0_), (1, v1_), (12, .int .i64 (p0.length : Int)), (13, .int .i64 s2)]) (fun s2 _ => [.rd v0_ p0, .rd v1_ p1]) 0 () ⟨rfl, rfl, rfl, rfl, trivial⟩ [1, 0] rfl rfl (fun s2 g3 => ?_) (fun s2 g3 => ?_)
    · unfold F_slices_Equal_Sint64_int64_L1
      refine J_seq ?_
      refine J_region ?_
      refine JL_q (wants_none rfl) rfl (ex_lss rfl rfl) ?_
      refine JL_nil ?_
      refine N_then ?_
      refine J_seq ?_
      refine J_if rfl (fun h4 => ?_) (fun h4 => ?_)
      · refine J_skip ?_
        refine N_then ?_
        refine J_seq ?_
        refine J_block ?_
        refine J_seq ?_
        refine J_region ?_
        refine JL_q (wants_none rfl) rfl (ex_move rfl) ?_
        refine JL_q (wants_none rfl) rfl (ex_assign rfl) ?_
        refine JL_nil ?_
        refine N_then ?_
        refine J_seq ?_
        refine J_draw [] (by kernel_rfl) ?_
        refine JP_take (i := 0) [0, 1] [] rfl (by kernel_rfl) (by kernel_rfl) (by kernel_rfl) rfl rfl (wants_none rfl) rfl (ex_move rfl) ?_
        refine JP_take (i := 1) [0, 1] [] rfl (by kernel_rfl) (by kernel_rfl) (by kernel_rfl) rfl rfl (wants_none rfl) rfl (ex_move rfl) ?_
        refine JP_bnd fun y5 hy6 => ?_
        refine JP_sq (i := 2) [] rfl (by kernel_rfl) (by kernel_rfl) (by kernel_rfl) rfl (wants_none rfl) rfl (sq_index 0 Try.underlying23 ti_2 rfl rfl rfl hy6) (fun q7 => ?_)
        refine JP_sq (i := 3) [] rfl (by kernel_rfl) (by kernel_rfl) (by kernel_rfl) rfl (wants_none rfl) rfl (sq_load_pt_o 0 (opens_int _) ti_2 rfl rfl) (fun _ => ?_)
        refine JP_take (i := 4) [0, 1, 2] [] rfl (by kernel_rfl) (by kernel_rfl) (by kernel_rfl) rfl rfl (wants_none rfl) rfl (ex_move rfl) ?_
        refine JP_take (i := 5) [0, 1, 2] [] rfl (by kernel_rfl) (by kernel_rfl) (by kernel_rfl) rfl rfl (wants_none rfl) rfl (ex_move rfl) ?_
        refine JP_bnd fun y9 hy10 => ?_
        refine JP_sq (i := 6) [] rfl (by kernel_rfl) (by kernel_rfl) (by kernel_rfl) rfl (wants_none rfl) rfl (sq_index 2 Try.underlying23 ti_2 rfl rfl rfl hy10) (fun q11 => ?_)
        refine JP_sq (i := 7) [] rfl (by kernel_rfl) (by kernel_rfl) (by kernel_rfl) rfl (wants_none rfl) rfl (sq_load_pt_o 0 (opens_int _) ti_2 rfl rfl) (fun _ => ?_)
        refine JP_take (i := 8) [0, 1, 2, 3] [] rfl (by kernel_rfl) (by kernel_rfl) (by kernel_rfl) rfl rfl (wants_none rfl) rfl (ex_neq rfl rfl) ?_
        refine JP_go [] [] rfl rfl rfl (fun _ _ _ => ?_)
        refine JD_done (by kernel_rfl) ?_
        refine N_then ?_
        refine J_if rfl (fun h13 => ?_) (fun h13 => ?_)
        · refine J_seq ?_
          refine J_region ?_
          refine JL_q (wants_none rfl) rfl (ex_assign rfl) ?_
          refine JL_nil ?_
          refine N_then ?_
          refine J_ret ?_
          refine N_block_ret ?_
          refine N_then_ret ?_
          refine N_round_ret ?_
          refine N_then_ret ?_
          exact N_ret1 rfl (rv_tmp rfl) (fun w hh => ⟨(), rfl, hh.sel [] rfl⟩)
        · refine J_skip ?_
          refine N_block ?_
          refine N_then ?_
          refine J_region ?_
          refine JL_q (wants_none rfl) rfl (ex_add rfl rfl) ?_
          refine JL_q (wants_none rfl) rfl (ex_move rfl) ?_
          refine JL_nil ?_
          exact N_next' () ⟨rfl, rfl, rfl, rfl, trivial⟩ [2, 3] rfl rfl
      · refine J_exit ?_
        refine N_then_exit ?_
        exact N_break' () ⟨rfl, rfl, rfl, rfl, trivial⟩ [0, 1] rfl rfl
    · refine N_then ?_
      refine J_seq ?_
      refine J_region ?_
      refine JL_q (wants_none rfl) rfl (ex_assign rfl) ?_
      refine JL_nil ?_
      refine N_then ?_
      refine J_ret ?_
      exact N_ret1 rfl (rv_tmp rfl) (fun w hh => ⟨(), rfl, hh.sel [] rfl⟩)

set_option maxHeartbeats 40000000 in
theorem c_impl_begins (A : Nat → Prop) (w : World) (hA : ∀ k, A k → k < w.heap.size) (v0_ : Value) (p0 : (List Int)) (hp0 : Rd A w v0_ p0) (v1_ : Value) (p1 : (List Int)) (hp1 : Rd A w v1_ p1) (r : Bool) (hr : F_impl_begins p0 p1 = some r) :
    Con Try.prog 118 [v0_, v1_] A w (fun x_ : Unit => .bool r) (fun x_ => []) := by
  refine Con_of (v := fun (r : Bool) (x_ : Unit) => .bool r) (fs := fun r x_ => []) Try.func118 rfl Try.ntmps118 rfl (((SH.start hA).start_rd rfl hp0).start_rd rfl hp1) rfl ?_ hr
  unfold F_impl_begins
  refine J_seq ?_
  refine J_region ?_
  refine JL_q (wants_none rfl) rfl (ex_assign rfl) ?_
  refine JL_nil ?_
  refine N_then ?_
  refine J_seq ?_
  refine J_region ?_
  refine JL_q (wants_none rfl) rfl (ex_move rfl) ?_
  refine JL_q (wants_none rfl) rfl (ex_len_rd 1 Try.underlying23 rfl rfl) ?_
  refine JL_q (wants_none rfl) rfl (ex_move rfl) ?_
  refine JL_q (wants_none rfl) rfl (ex_len_rd 0 Try.underlying23 rfl rfl) ?_
  refine JL_q (wants_none rfl) rfl (ex_geq rfl rfl) ?_
  refine JL_q (wants_none rfl) rfl (ex_move rfl) ?_
  refine JL_cond (fun h1 => ?_) (fun h1 => ?_)
  · refine JL_q (wants_some rfl rfl rfl h1) rfl (ex_move rfl) ?_
    refine JL_q (wants_some rfl rfl rfl h1) rfl (ex_move rfl) ?_
    refine JL_q (wants_some rfl rfl rfl h1) rfl (ex_len_rd 0 Try.underlying23 rfl rfl) ?_
    refine JL_bnd fun z2 hz3 => ?_
    refine JL_st (wants_some rfl rfl rfl h1) rfl (st_slice 1 Try.underlying23 ti_2 rfl rfl rfl rfl hz3) (fun v4 => ?_)
    refine JL_q (wants_some rfl rfl rfl h1) rfl (ex_move rfl) ?_
    refine JL_bnd fun r5 hr6 => ?_
    refine JL_call (wants_some rfl rfl rfl h1) rfl Try.call106 rfl (Ca_of0 fun w hh => c_slices_Equal_Sint64_int64 _ w (fun _ hk => hk.elim) _ _ (hh.rd0 0 rfl) _ _ (hh.rd0 1 rfl) _ hr6) (fun _ => ?_)
    refine JL_q (wants_none rfl) rfl (ex_pick_true rfl h1 rfl) ?_
    refine JL_q (wants_none rfl) rfl (ex_assign rfl) ?_
    refine JL_nil ?_
    refine N_then ?_
    refine J_ret ?_
    exact N_ret1 rfl (rv_tmp rfl) (fun w hh => ⟨(), rfl, hh.sel [] rfl⟩)
  · refine JL_passed rfl rfl rfl h1 ?_
    refine JL_passed rfl rfl rfl h1 ?_
    refine JL_passed rfl rfl rfl h1 ?_
    refine JL_passed rfl rfl rfl h1 ?_
    refine JL_passed rfl rfl rfl h1 ?_
    refine JL_passed rfl rfl rfl h1 ?_
    refine JL_q (wants_none rfl) rfl (ex_pick_false rfl h1 rfl) ?_
    refine JL_q (wants_none rfl) rfl (ex_assign rfl) ?_
    refine JL_nil ?_
    refine N_then ?_
    refine J_ret ?_
    exact N_ret1 rfl (rv_tmp rfl) (fun w hh => ⟨(), rfl, hh.sel [] rfl⟩)

set_option maxHeartbeats 40000000 in
theorem c_impl_occurrences (A : Nat → Prop) (w : World) (hA : ∀ k, A k → k < w.heap.size) (v0_ : Value) (p0 : (List Int)) (hp0 : Rd A w v0_ p0) (v1_ : Value) (p1 : (List Int)) (hp1 : Rd A w v1_ p1) (r : (List Int)) (hr : F_impl_occurrences p0 p1 = some r) :
    Con Try.prog 97 [v0_, v1_] A w (fun x_ : Value => x_) (fun x_ => [.ow 2 x_ r]) := by
  refine Con_of (v := fun (r : (List Int)) (x_ : Value) => x_) (fs := fun r x_ => [.ow 2 x_ r]) Try.func97 rfl Try.ntmps97 rfl (((SH.start hA).start_rd rfl hp0).start_rd rfl hp1) rfl ?_ hr
  unfold F_impl_occurrences
  refine J_seq ?_
  refine J_region ?_
  refine JL_q (wants_none rfl) rfl (ex_assign rfl) ?_
  refine JL_nil ?_
  refine N_then ?_
  refine J_seq ?_
  refine J_region ?_
  refine JL_st (wants_none rfl) rfl (st_buildSlice (vs := []) ([] : List Int) Try.underlying23 ti_2 zi_2 rfl rfl rfl (fun w hh => trivial)) (fun b1 => ?_)
  refine JL_q (wants_none rfl) rfl (ex_assign rfl) ?_
  refine JL_nil ?_
  refine N_then ?_
  refine J_seq ?_
  refine J_seq ?_
  refine J_region ?_
  refine JL_q (wants_none rfl) rfl (ex_assign rfl) ?_
  refine JL_nil ?_
  refine N_then ?_
  refine J_loop' (S := (List Int) × Int) (G := Value) (F_impl_occurrences_L1 p0 p1) (fun s2 g3 => [(0, v0_), (1, v1_), (5, g3), (6, .int .i64 s2.2)]) (fun s2 g3 => [.rd v0_ p0, .rd v1_ p1, .ow 2 g3 s2.1]) (([] : List Int), 0) (.slice (some ⟨b1, 0, none⟩) 0 0) ⟨rfl, rfl, rfl, rfl, trivial⟩ [2, 1, 0] rfl rfl (fun s2 g3 => ?_) (fun s2 g3 => ?_)
  · unfold F_impl_occurrences_L1
    refine J_seq ?_
    refine J_seq ?_
    refine J_region ?_
    refine JL_q (wants_none rfl) rfl (ex_move rfl) ?_
    refine JL_q (wants_none rfl) rfl (ex_move rfl) ?_
    refine JL_q (wants_none rfl) rfl (ex_len_rd 0 Try.underlying23 rfl rfl) ?_
    refine JL_q (wants_none rfl) rfl (ex_leq rfl rfl) ?_
    refine JL_nil ?_
    refine N_then ?_
    refine J_if rfl (fun h4 => ?_) (fun h4 => ?_)
    · refine J_skip ?_
      refine N_then ?_
      refine J_seq ?_
      refine J_block ?_
      refine J_seq ?_
      refine J_region ?_
      refine JL_q (wants_none rfl) rfl (ex_move rfl) ?_
      refine JL_q (wants_none rfl) rfl (ex_move rfl) ?_
      refine JL_bnd fun z5 hz6 => ?_
      refine JL_st (wants_none rfl) rfl (st_slice 0 Try.underlying23 ti_2 rfl rfl rfl rfl hz6) (fun v7 => ?_)
      refine JL_q (wants_none rfl) rfl (ex_move rfl) ?_
      refine JL_bnd fun r8 hr9 => ?_
      refine JL_call (wants_none rfl) rfl Try.call118 rfl (Ca_of0 fun w hh => c_impl_begins _ w (fun _ hk => hk.elim) _ _ (hh.rd0 0 rfl) _ _ (hh.rd0 2 rfl) _ hr9) (fun _ => ?_)
      refine JL_nil ?_
      refine N_then ?_
      refine J_if rfl (fun h10 => ?_) (fun h10 => ?_)
      · refine J_region ?_
        refine JL_q (wants_none rfl) rfl (ex_move rfl) ?_
        refine JL_q (wants_none rfl) rfl (ex_move rfl) ?_
        refine JL_st (wants_none rfl) rfl (st_buildSlice (vs := [.int .i64 s2.2]) ([s2.2] : List Int) Try.underlying23 ti_2 zi_2 rfl rfl rfl (fun w hh => ⟨(Rd.mk_int _ _ _), trivial⟩)) (fun b11 => ?_)
        refine JL_bnd fun z12 hz13 => ?_
        refine JL_st (wants_none rfl) rfl (st_append 4 Try.underlying23 ti_2 zi_2 rfl bi_2 rfl rfl rfl rfl (fun w hh => hh.src_ow 0 rfl) hz13) (fun v14 => ?_)
        refine JL_q (wants_none rfl) rfl (ex_assign rfl) ?_
        refine JL_nil ?_
        refine N_block ?_
        refine N_then ?_
        refine J_region ?_
        refine JL_q (wants_none rfl) rfl (ex_move rfl) ?_
        refine JL_q (wants_none rfl) rfl (ex_add rfl rfl) ?_
        refine JL_q (wants_none rfl) rfl (ex_assign rfl) ?_
        refine JL_nil ?_
        exact N_next' v14 ⟨rfl, rfl, rfl, rfl, trivial⟩ [2, 3, 4] rfl rfl
      · refine J_skip ?_
        refine N_block ?_
        refine N_then ?_
        refine J_region ?_
        refine JL_q (wants_none rfl) rfl (ex_move rfl) ?_
        refine JL_q (wants_none rfl) rfl (ex_add rfl rfl) ?_
        refine JL_q (wants_none rfl) rfl (ex_assign rfl) ?_
        refine JL_nil ?_
        exact N_next' g3 ⟨rfl, rfl, rfl, rfl, trivial⟩ [1, 2, 3] rfl rfl
    · refine J_exit ?_
      refine N_then_exit ?_
      exact N_break' g3 ⟨rfl, rfl, rfl, rfl, trivial⟩ [0, 1, 2] rfl rfl
  · refine N_then ?_
    refine J_seq ?_
    refine J_region ?_
    refine JL_q (wants_none rfl) rfl (ex_move rfl) ?_
    refine JL_q (wants_none rfl) rfl (ex_assign rfl) ?_
    refine JL_nil ?_
    refine N_then ?_
    refine J_ret ?_
    exact N_ret1 rfl (rv_tmp rfl) (fun w hh => ⟨g3, rfl, hh.sel [2] rfl⟩)

end Go.Proofs.Ythmompdfapcgkaa
